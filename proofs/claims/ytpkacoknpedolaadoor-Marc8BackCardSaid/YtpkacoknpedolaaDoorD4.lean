/-
  The walk of put.
-/
import Derived.Test.YtpkacoknpedolaaDoorD3
namespace Go.Proofs.YtpkacoknpedolaaDoor
open Go.RowKit Go.Maps

theorem EncSt.keep {B E Z bs bb cp mu mk mc : Nat} {w wr w' : World} {e : ES} (D : Dim2 B E Z bs bb) (h : EncSt B E Z bs bb cp mu mk mc w wr e) (hb : Below wr.heap.size wr w') : EncSt B E Z bs bb cp mu mk mc w w' e := by
  obtain ⟨g, pv, H, hp, hne⟩ := h.ex
  exact h.turn D (g := none) (fun k e => by cases e) ⟨hb.os, hb.tape, hb.output, hb.size, fun j hj _ _ => hb.block j hj⟩ (MapsKept.below hb) h.now (H.below hb) (ownr_far hp (fun k hk => hb.block k (hp.lt k hk).2)) hne
theorem EncSt.newPend {B E Z bs bb cp mu mk mc : Nat} {w wr : World} {e : ES} (D : Dim2 B E Z bs bb) (h : EncSt B E Z bs bb cp mu mk mc w wr e) (b : Nat) (hb : b < 256) :
    EncSt B E Z bs bb cp mu mk mc w ((wr.alloc (.cells #[.int .u8 b] 5)).setCell ⟨E, 7, none⟩ (.slice (some ⟨wr.heap.size, 0, none⟩) 1 1)) { e with pend := [UInt8.ofNat b] } := by
  obtain ⟨g, pv, H, hp, hne⟩ := h.ex
  have hz := h.size
  have hE := H.old
  obtain ⟨_, _, hc, _⟩ := (H.alloc (.cells #[.int .u8 b] 5)).kcells
  have hb1 := alloc_below1 wr (.cells #[.int .u8 b] 5)
  have f1 : Fr E none wr (wr.alloc (.cells #[.int .u8 b] 5)) := ⟨hb1.os, hb1.tape, hb1.output, hb1.size, fun j hj _ _ => hb1.block j hj⟩
  refine h.turn D (g := none) (fun k e => by cases e) (f1.trans (setCell_fr E 7 _ _) (fun j ej => by cases ej)) ((MapsKept.below hb1).trans (MapsKept.cells hc 7 _)) h.now ((H.alloc _).field 5 _) (ownr_far (w := wr.alloc (.cells #[.int .u8 b] 5)) ?_ (fun k hk => ?_)) (fun k hk e2 => ?_)
  · have h1 := World.ownsRow_lit (base := Z) (e := 5) (size := 1) wr #[.int .u8 b] 1 hz (by unfold maxLen; omega) rfl
    have hbu : (UInt8.ofNat b).toNat = b := UInt8.toNat_ofNat_of_lt' hb
    simpa [Lib.byteCells, hbu] using h1
  · injection hk with hk
    exact Below.heap_setCell _ _ _ _ (by show k ≠ E; have : wr.heap.size = k := hk; omega)
  · injection e2 with e2
    have e3 : wr.heap.size = k := e2
    have := (H.row k hk).2
    omega
/-- What put leaves. -/
def PutPost (B E Z bs bb cp mu mk mc : Nat) (w wr : World) (at_ : Int) (r : Option ES) (en : Ending) (w' : World) : Prop := match r with
  | some e' => en = .returned (.tuple #[]) ∧ EncSt B E Z bs bb cp mu mk mc w w' e' ∧ Keeps E wr w'
  | none => en = failV at_ 15 ∧ Below B w w'
def nsOf (now i : Nat) : Nat := match i with | 0 => now | 1 => 0 | 2 => 1 | _ => 2
theorem find_hit {now c i b : Nat} (hi : i < 4) (h : ∀ j, j < i → stR (nsOf now j) c = none) (hb : stR (nsOf now i) c = some b) : findSet c [now, 0, 1, 2] = some (nsOf now i, b) := by
  match i, hi with
  | 0, _ => have h0 : stR now c = some b := hb
            simp [findSet, h0, nsOf]
  | 1, _ => have h0 : stR now c = none := h 0 (by omega)
            have h1 : stR 0 c = some b := hb
            simp [findSet, h0, h1, nsOf]
  | 2, _ => have h0 : stR now c = none := h 0 (by omega)
            have h1 : stR 0 c = none := h 1 (by omega)
            have h2 : stR 1 c = some b := hb
            simp [findSet, h0, h1, h2, nsOf]
  | 3, _ => have h0 : stR now c = none := h 0 (by omega)
            have h1 : stR 0 c = none := h 1 (by omega)
            have h2 : stR 1 c = none := h 2 (by omega)
            have h3 : stR 2 c = some b := hb
            simp [findSet, h0, h1, h2, h3, nsOf]
theorem find_miss {now c : Nat} (h : ∀ j, j < 4 → stR (nsOf now j) c = none) : findSet c [now, 0, 1, 2] = none := by
  have h0 : stR now c = none := h 0 (by omega)
  have h1 : stR 0 c = none := h 1 (by omega)
  have h2 : stR 1 c = none := h 2 (by omega)
  have h3 : stR 2 c = none := h 3 (by omega)
  simp [findSet, h0, h1, h2, h3]
theorem stR_lt {n c b : Nat} (h : stR n c = some b) : b < 256 := by
  have h1 := (swap_st n).2 b c h
  have hlt : ∀ (l : List (Nat × Nat)), (∀ p ∈ l, p.1 < 256) → ∀ (f : Nat → Option Nat), (∀ b c, f b = some c → b < 256) → ∀ b c, l.foldl upd f b = some c → b < 256 := by
    intro l
    induction l with
    | nil => intro _ f hf b c h; exact hf b c h
    | cons p l ih =>
      intro hl f hf b c h
      refine ih (fun q hq => hl q (List.mem_cons_of_mem _ hq)) _ (fun b c h => ?_) b c h
      unfold upd at h
      split at h
      · rename_i e; rw [e]; exact hl p List.mem_cons_self
      · exact hf b c h
  have hs : ∀ p ∈ setT n, p.1 < 256 := by
    rcases setT_cases n with e | e | e <;> rw [e]
    · exact fun p hp => (asciiT_ok 126 (by omega) p hp).1
    · exact fun p hp => (setT_ok.1 p hp).1
    · exact fun p hp => (setT_ok.2.1 p hp).1
  exact hlt _ hs _ (fun b c h => by cases h) b c h1
theorem look_lt {l : List (Nat × Nat)} (hl : ∀ p ∈ l, p.1 < 256) {c b : Nat} (h : look (swapT l) c = some b) : b < 256 := by
  induction l with
  | nil => cases h
  | cons p l ih =>
    unfold swapT at h
    simp only [List.map_cons, look] at h
    split at h
    · injection h with h; subst h; exact hl p List.mem_cons_self
    · exact ih (fun q hq => hl q (List.mem_cons_of_mem _ hq)) h
theorem upR_lt {c b : Nat} (h : upR c = some b) : b < 256 := look_lt (by decide) h
theorem mkR_lt {c b : Nat} (h : mkR c = some b) : b < 256 := look_lt (by decide) h
theorem Env2.byte {bs bb mu mk mc : Nat} {w : World} (h : Env2 bs bb mu mk mc w) (n : Nat) (hn : n < 3) : ∃ r k, w.cell? ⟨bb, n, none⟩ = some (.map (some r)) ∧ MapR w r k (stR n) := by
  obtain ⟨r0, r1, r2, n0, n1, n2, c0, c1, c2, R0, R1, R2⟩ := h.bytes
  match n, hn with
  | 0, _ => exact ⟨r0, n0, c0, R0⟩
  | 1, _ => exact ⟨r1, n1, c1, R1⟩
  | 2, _ => exact ⟨r2, n2, c2, R2⟩
theorem fin_len (e : ES) : (finR e).out.length + (finR e).pend.length = e.out.length + e.pend.length := by
  unfold finR
  split
  · rfl
  · rename_i b r h
    rw [h]; simp
theorem fin_now (e : ES) : (finR e).now = e.now := by unfold finR; split <;> rfl
theorem fin_pend (e : ES) : (finR e).pend = [] := by
  unfold finR
  split
  · assumption
  · rfl
set_option maxHeartbeats 8000000 in
set_option maxRecDepth 100000 in
theorem put_36 {B E Z bs bb cp mu mk mc : Nat} {w : World} (D : Dim2 B E Z bs bb) (e : ES) (c at_ : Nat) (hc : c < 2147483648) (wr : World) (h : EncSt B E Z bs bb cp mu mk mc w wr e) (ho : e.out.length + e.pend.length ≤ 140737488354000) :
    Calls Tryd.prog 36 #[.pointer (some ⟨E, 0, none⟩), .int .i32 c, .int .i64 at_] wr (PutPost B E Z bs bb cp mu mk mc w wr at_ (putR c e)) := by
  have HF := Lib.hid (finish_37 D e wr h ho)
  have HD := Lib.hid D
  have HLN : Hid ((finR e).out.length ≤ 140737488354000) := Lib.hid (by have := fin_len e; omega)
  have HPR : Hid (∀ x, PutPost B E Z bs bb cp mu mk mc w wr at_ (putR c e) x = PutPost B E Z bs bb cp mu mk mc w wr at_ (match upR c with
      | some b => some { finR e with pend := [UInt8.ofNat b] }
      | none => match findSet c [(finR e).now, 0, 1, 2] with
        | some (n, b) => some { toR n (finR e) with pend := [UInt8.ofNat b] }
        | none => none) x) := fun _ => rfl
  clear h D ho
  generalize finR e = e1 at *
  generalize putR c e = R at *
  clear e
  go_enter Tryd.func36, Tryd.ntmps36
  have hE : True := trivial
  cases hu : upR c with
  | some b =>
    rw [hu] at HPR
    have HB := Lib.hid (upR_lt hu)
    go_wp2_with (go_at_call 37; ((with_reducible refine Calls.mono HF.out ?_); rintro en w1 ⟨rfl, hs1, hkp1⟩; have HS := Lib.hid hs1; have HKP := Lib.hid hkp1; clear hkp1; obtain ⟨g, pa, pc, hH, _, _⟩ := hs1.cell; obtain ⟨_, _, c4, _, _, c7, fz⟩ := enc_fields hH; have hE1 := hH.old; have f7 := fz 7; obtain ⟨nu, hup⟩ := hs1.env.upper; have hl1 := hup.look c hc; rw [hu] at hl1; simp only [Option.getD_some, Option.isSome_some] at hl1; clear hs1 hH hup))
    refine bodyPost_ret (v := .tuple #[]) (by simp [results, Tryd.results36, go_sem]) rfl ?_
    rw [HPR.out]
    exact ⟨rfl, (World.setCell_alloc_past (w := w1) _ E 7 _ hE1) ▸ HS.out.newPend HD.out b HB.out, (HKP.out.trans (Keeps.set w1 7 _)).trans (Keeps.below (alloc_below1 _ _))⟩
  | none =>
    rw [hu] at HPR
    simp only at HPR
    go_wp2_with (go_at_call 37; ((with_reducible refine Calls.mono HF.out ?_); rintro en w1 ⟨rfl, hs1, hkp1⟩; have HS := Lib.hid hs1; have HKP := Lib.hid hkp1; clear hkp1; obtain ⟨g, pa, pc, hH, _, _⟩ := hs1.cell; obtain ⟨_, _, c4, _, c6, c7, fz⟩ := enc_fields hH; have hE1 := hH.old; have f7 := fz 7; obtain ⟨nu, hup⟩ := hs1.env.upper; have hl1 := hup.look c hc; rw [hu] at hl1; simp only [Option.getD_none, Option.isSome_none] at hl1; clear hs1 hH hup))
    have HK := Lib.hid (HS.out.keep HD.out (alloc_below1 w1 (.cells #[.int .i64 e1.now, .int .i64 0, .int .i64 1, .int .i64 2] 3)))
    have HC4 : Hid (∀ i, i < 4 → (w1.alloc (.cells #[.int .i64 e1.now, .int .i64 0, .int .i64 1, .int .i64 2] 3)).cell? ⟨w1.heap.size, i, none⟩ = some (.int .i64 (nsOf e1.now i))) := fun i hi => by
      rw [World.cell?_alloc_new]
      match i, hi with
      | 0, _ => rfl
      | 1, _ => rfl
      | 2, _ => rfl
      | 3, _ => rfl
    have HKP4 : Hid (Keeps E wr (w1.alloc (.cells #[.int .i64 e1.now, .int .i64 0, .int .i64 1, .int .i64 2] 3))) := Lib.hid (HKP.out.trans (Keeps.below (alloc_below1 _ _)))
    clear HKP
    generalize (w1.alloc (.cells #[.int .i64 e1.now, .int .i64 0, .int .i64 1, .int .i64 2] 3)) = w2 at *
    generalize w1.heap.size = nb at *
    clear HS c4 c6 c7 fz hl1 HF
    go_loopw [35] (fun i wx => ∃ k : Nat, k ≤ 4 ∧ i = .int .i64 k ∧ wx = w2 ∧ Hid (∀ j, j < k → stR (nsOf e1.now j) c = none)) (fun i _ => 4 - (intOf i).toNat)
    case atStart => exact ⟨0, by omega, rfl, rfl, fun j hj => by omega⟩
    case round =>
      obtain ⟨k, hk, rfl, rfl, HNO⟩ := hrel
      by_cases hk4 : k < 4
      · have d4 := HC4.out k hk4
        have hns : nsOf e1.now k < 3 := by
          have := HK.out.now
          unfold nsOf; split <;> omega
        obtain ⟨r, rn, hbc, hbr⟩ := HK.out.env.byte (nsOf e1.now k) hns
        have hl2 := hbr.look c hc
        obtain ⟨g, pa, pc, hH, _, _⟩ := HK.out.cell
        obtain ⟨_, c3, _, _, _, c7, fz⟩ := enc_fields hH
        have HFH : Hid (∀ b, stR (nsOf e1.now k) c = some b → findSet c [e1.now, 0, 1, 2] = some (nsOf e1.now k, b)) := fun b hb => find_hit hk4 HNO.out hb
        have HNX : Hid (stR (nsOf e1.now k) c = none → ∀ j, j < k + 1 → stR (nsOf e1.now j) c = none) := fun h j hj => by
          by_cases e : j = k
          · subst e; exact h
          · exact HNO.out j (by omega)
        have HLT : Hid (∀ b, stR (nsOf e1.now k) c = some b → b < 256) := fun b hb => stR_lt hb
        generalize nsOf e1.now k = n at *
        have hns' : (n : Int) < 3 := by omega
        have hk4' : (k : Int) < 4 := by omega
        clear hbr hH
        cases hq : stR n c with
        | some b =>
          rw [hq] at hl2
          simp only [Option.getD_some, Option.isSome_some] at hl2
          have HFS := Lib.hid (HFH.out b hq)
          have HB := Lib.hid (HLT.out b hq)
          have HTO := Lib.hid (to_38 HD.out e1 n hns wr HK.out HLN.out)
          go_wp2_with (go_at_call 38; ((with_reducible refine Calls.mono HTO.out ?_); rintro en w3 ⟨rfl, hs3, hkp3⟩; have HS3 := Lib.hid hs3; have HKP3 := Lib.hid hkp3; clear hkp3; obtain ⟨g3, pa3, pc3, hH3, _, _⟩ := hs3.cell; obtain ⟨_, _, _, _, _, e7, fz3⟩ := enc_fields hH3; have hE3 := hH3.old; have f73 := fz3 7; clear hs3 hH3))
          refine bodyPost_ret (v := .tuple #[]) (by simp [results, Tryd.results36, go_sem]) rfl ?_
          rw [HPR.out, HFS.out]
          exact ⟨rfl, (World.setCell_alloc_past (w := w3) _ E 7 _ hE3) ▸ HS3.out.newPend HD.out b HB.out, ((HKP4.out.trans HKP3.out).trans (Keeps.set w3 7 _)).trans (Keeps.below (alloc_below1 _ _))⟩
        | none =>
          rw [hq] at hl2
          simp only [Option.getD_none, Option.isSome_none] at hl2
          have HNX2 := Lib.hid (HNX.out hq)
          go_wp2_with fail
          go_roundw
          case rel => exact ⟨k + 1, by omega, by go_num, (by first | rfl | trivial), HNX2⟩
          case measure => simp [intOf]; omega
      · have hk0 : k = 4 := by omega
        subst hk0
        have HFM := Lib.hid (find_miss HNO.out)
        go_wp2_with fail
        refine ⟨rfl, ?_⟩
        rw [HPR.out, HFM.out]
        exact ⟨rfl, HK.out.below⟩
end Go.Proofs.YtpkacoknpedolaaDoor
