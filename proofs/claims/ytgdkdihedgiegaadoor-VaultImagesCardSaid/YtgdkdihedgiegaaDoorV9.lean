/-
  The walk of Append.
-/
import Derived.Test.YtgdkdihedgiegaaDoorV7
namespace Go.Proofs.YtgdkdihedgiegaaDoor
open Go.RowKit

theorem run_err (D : DiskD) (l : List (Nat × Bs)) : (runD D l).2 = 0 ∨ (runD D l).2 = 70 := by
  induction l generalizing D with
  | nil => exact .inl rfl
  | cons q l ih =>
    rw [runD]
    split
    · exact ih _
    · exact ws_err _ _ _
/-- What Append writes. -/
def appR (e : Nat) (r : Bs) : List (Nat × Bs) := [(e + 1, numR r.length ++ r ++ [0]), (e, [1])]
/-- The post of a call that writes and then notes the end and the number of records. -/
def NotePost (F : Nat → Prop) (bv b e m e' m' : Nat) (r : DiskD × Int) (w : World) (x : Ending) (w' : World) : Prop :=
  x = .returned (.int .i64 r.2) ∧ ∃ F', VD F' w' bv b (if r.2 = 0 then e' else e) (if r.2 = 0 then m' else m) (decide (r.2 = 70)) r.1 ∧ Step (With F bv) w (With F' bv) w'
set_option maxHeartbeats 1000000 in
theorem append_broken (w : World) (bv b : Nat) (e m : Int) (h : VaultAt w bv b e m true) (r : Bs) :
    Calls Tryd.prog 21 #[.pointer (some ⟨bv, 0, none⟩), S r] w fun x w' => x = .returned (.int .i64 70) ∧ w' = w := by
  have HR := Lib.hid (ready_44 w bv b e m true h)
  clear h
  go_enter Tryd.func21, Tryd.ntmps21
  go_wp2_with (go_at_call 44; ((with_reducible refine Calls.mono HR.out ?_); rintro x w1 ⟨rfl, rfl⟩))
  go_ret
  exact ⟨rfl, rfl⟩
theorem VD.alloc {F : Nat → Prop} {w : World} {bv b : Nat} {e m : Int} {br : Bool} {D : DiskD} (h : VD F w bv b e m br D) (o : Obj) : VD F (w.alloc o) bv b e m br D := h.below (alloc_below w o)
theorem VD.cell1 {F : Nat → Prop} {w : World} {bv b : Nat} {e m : Int} {br : Bool} {D : DiskD} (h : VD F w bv b e m br D) : w.cell? ⟨bv, 1, none⟩ = some (.int .i64 e) := by rw [blk_cell h.vault]; rfl
theorem VD.lt {F : Nat → Prop} {w : World} {bv b : Nat} {e m : Int} {br : Bool} {D : DiskD} (h : VD F w bv b e m br D) : ∀ k, F k → k < w.heap.size := h.disk.lt
set_option maxHeartbeats 4000000 in
set_option maxRecDepth 100000 in
theorem append_21 (F : Nat → Prop) (w : World) (bv b e m : Nat) (D : DiskD) (h : VD F w bv b e m false D) (hok : OkD D) (hpc : D.pcs.length ≤ 1000000) (r : Bs) (hr : r.length ≤ 1000000) (he : e + (frameR r).length + 1 ≤ 16777216) (hm : m ≤ 1000000) :
    Calls Tryd.prog 21 #[.pointer (some ⟨bv, 0, none⟩), S r] w (NotePost F bv b e m (e + (frameR r).length) (m + 1) (runD D (appR e r)) w) := by
  have HR := Lib.hid (ready_44 w bv b e m false h.vault)
  have HFR := Lib.hid (fun W => frame_45 r W (by omega))
  obtain ⟨L, hL⟩ : ∃ L, L = numR r.length ++ r := ⟨_, rfl⟩
  have hfr : frameR r = 1 :: L := by rw [hL]; rfl
  have happ : appR e r = [(e + 1, L ++ [0]), (e, [1])] := by rw [hL]; rfl
  rw [hfr] at he ⊢
  rw [hfr] at HFR
  rw [happ]
  have hLl : L.length ≤ 16777216 := by simp at he; omega
  obtain ⟨n, hn⟩ : ∃ n, n = (1 :: L).length := ⟨_, rfl⟩
  have hn1 : n = L.length + 1 := by rw [hn]; rfl
  have e0 : (e : Int) ≤ 20000000 := by omega
  have e00 : (L.length : Int) ≤ 20000000 := by omega
  have hd0 : decide ((16777216 : Int) < (e : Int) + ((L.length : Int) + 1) + 1) = false := by simp; omega
  have H := Lib.hid h
  have HOK := Lib.hid hok
  have c1 : w.cell? ⟨bv, 1, none⟩ = some (.int .i64 e) := h.cell1
  have HN := Lib.hid hn1
  have HE := Lib.hid he
  rw [← hn]
  have HLL := Lib.hid hLl
  clear h hok hL hfr happ hn he hLl hn1
  have s1 : ¬ 9223372036854775807 < L.length + 1 := by omega
  have s2 : (1 : Int) ≤ (L.length : Int) + 1 := by omega
  have w1' : IntKind.i64.wrap ((e : Int) + 1) = e + 1 := IntWalk.i64_in _ (by omega)
  go_enter Tryd.func21, Tryd.ntmps21
  go_wp2_with (first
    | (go_at_call 44; ((with_reducible refine Calls.mono HR.out ?_); rintro x w1 ⟨rfl, hw⟩; have hw := hw.symm; subst hw))
    | (go_at_call 45; ((with_reducible refine Calls.mono (HFR.out _) ?_); rintro x w1 ⟨rfl, hb1⟩; have HB1 := Lib.hid hb1; have HV1 := Lib.hid (H.out.below hb1); have c2 := HV1.out.cell1; clear hb1)))
  obtain ⟨W1, hW1⟩ : ∃ W1, w1.drew = W1 := ⟨_, rfl⟩
  have HV : Hid (VD F W1 bv b e m false D) := by rw [← hW1]; exact HV1.out.below ((Below.refl _ w1).drew)
  have HBW : Hid (Below w.heap.size w W1) := by rw [← hW1]; exact HB1.out.drew
  refine wp_region_T (fun w' => w'.cell? ⟨bv, 1, none⟩ = some (.int .i64 e)) 23 (by kernel_rfl) ?_
  rw [hW1]
  clear hW1 HV1 HB1 c2
  refine anyT_take (i := 0) (v := ?_) rfl (by kernel_rfl) (by kernel_rfl) (by kernel_rfl) (by kernel_rfl) (by decide) (fun _ _ _ h => h) HV.out.cell1 (Or.inl ⟨by rfl, ?_⟩) ?_
  rotate_left
  · intro w' h; go_simp; rfl
  refine anyT_take (i := 1) (v := ?_) rfl (by kernel_rfl) (by kernel_rfl) (by kernel_rfl) (by kernel_rfl) (by decide) (fun _ _ _ h => h) HV.out.cell1 (Or.inl ⟨by rfl, ?_⟩) ?_
  rotate_left
  · intro w' h; go_simp; rfl
  refine anyT_take (i := 2) (v := ?_) rfl (by kernel_rfl) (by kernel_rfl) (by kernel_rfl) (by kernel_rfl) (by decide) (fun _ _ _ h => h) HV.out.cell1 (Or.inl ⟨by rfl, ?_⟩) ?_
  rotate_left
  · intro w' h; go_simp; rfl
  refine anyT_take (i := 3) (v := ?_) rfl (by kernel_rfl) (by kernel_rfl) (by kernel_rfl) (by kernel_rfl) (by decide) (fun _ _ _ h => h) HV.out.cell1 (Or.inl ⟨by rfl, ?_⟩) ?_
  rotate_left
  · intro w' h; go_simp; rfl
  refine anyT_take (i := 4) (v := ?_) rfl (by kernel_rfl) (by kernel_rfl) (by kernel_rfl) (by kernel_rfl) (by decide) (fun _ _ _ h => h) HV.out.cell1 (Or.inl ⟨by rfl, ?_⟩) ?_
  rotate_left
  · intro w' h; go_simp; rfl
  refine anyT_take (i := 5) (v := ?_) rfl (by kernel_rfl) (by kernel_rfl) (by kernel_rfl) (by kernel_rfl) (by decide) (fun _ _ _ h => h) HV.out.cell1 (Or.inl ⟨by rfl, ?_⟩) ?_
  rotate_left
  · intro w' h; go_simp; rfl
  refine anyT_take (i := 6) (v := ?_) rfl (by kernel_rfl) (by kernel_rfl) (by kernel_rfl) (by kernel_rfl) (by decide) (fun _ _ _ h => h) HV.out.cell1 (Or.inl ⟨by rfl, ?_⟩) ?_
  rotate_left
  · intro w' h; go_simp; rfl
  refine anyT_take (i := 7) (v := ?_) rfl (by kernel_rfl) (by kernel_rfl) (by kernel_rfl) (by kernel_rfl) (by decide) (fun _ _ _ h => h) HV.out.cell1 (Or.inl ⟨by rfl, ?_⟩) ?_
  rotate_left
  · intro w' h; go_simp; rfl
  refine anyT_take (i := 8) (v := ?_) rfl (by kernel_rfl) (by kernel_rfl) (by kernel_rfl) (by kernel_rfl) (by decide) (fun _ _ _ h => h) HV.out.cell1 (Or.inl ⟨by rfl, ?_⟩) ?_
  rotate_left
  · intro w' h; go_simp; rfl
  refine anyT_take (i := 13) (v := ?_) rfl (by kernel_rfl) (by kernel_rfl) (by kernel_rfl) (by kernel_rfl) (by decide) (fun _ _ _ h => h) HV.out.cell1 (Or.inl ⟨by rfl, ?_⟩) ?_
  rotate_left
  · intro w' h; go_simp; rfl
  refine anyT_take (i := 14) (v := ?_) rfl (by kernel_rfl) (by kernel_rfl) (by kernel_rfl) (by kernel_rfl) (by decide) (fun _ _ _ h => h) HV.out.cell1 (Or.inl ⟨by rfl, ?_⟩) ?_
  rotate_left
  · intro w' h; go_simp; rfl
  refine anyT_take (i := 15) (v := ?_) rfl (by kernel_rfl) (by kernel_rfl) (by kernel_rfl) (by kernel_rfl) (by decide) (fun _ _ _ h => h) HV.out.cell1 (Or.inl ⟨by rfl, ?_⟩) ?_
  rotate_left
  · intro w' h; go_simp; rfl
  refine anyT_take (i := 16) (v := ?_) rfl (by kernel_rfl) (by kernel_rfl) (by kernel_rfl) (by kernel_rfl) (by decide) (fun _ _ _ h => h) HV.out.cell1 (Or.inl ⟨by rfl, ?_⟩) ?_
  rotate_left
  · intro w' h; go_simp; rfl
  refine anyT_take (i := 17) (v := ?_) rfl (by kernel_rfl) (by kernel_rfl) (by kernel_rfl) (by kernel_rfl) (by decide) (fun _ _ _ h => h) HV.out.cell1 (Or.inl ⟨by rfl, ?_⟩) ?_
  rotate_left
  · intro w' h; go_simp; rfl
  refine anyT_take (i := 18) (v := ?_) rfl (by kernel_rfl) (by kernel_rfl) (by kernel_rfl) (by kernel_rfl) (by decide) (fun _ _ _ h => h) HV.out.cell1 (Or.inl ⟨by rfl, ?_⟩) ?_
  rotate_left
  · intro w' h; go_simp; rfl
  refine anyT_take (i := 19) (v := ?_) rfl (by kernel_rfl) (by kernel_rfl) (by kernel_rfl) (by kernel_rfl) (by decide) (fun _ _ _ h => h) HV.out.cell1 (Or.inl ⟨by rfl, ?_⟩) ?_
  rotate_left
  · intro w' h; go_simp; rfl
  go_simp
  refine anyT_do (i := 9) rfl (by kernel_rfl) rfl (fun K hK => ?_)
  go_simp
  have HV2 := Lib.hid (HV.out.alloc (.cells #[.int .u8 0] 5))
  have hB2 := alloc_below W1 (.cells #[.int .u8 0] 5)
  have kz : (W1.alloc (.cells #[.int .u8 0] 5)).cell? ⟨W1.heap.size, 0, none⟩ = some (.int .u8 0) := World.cell?_alloc_new W1 _ _ 0
  have HB2 : Hid (Below w.heap.size w (W1.alloc (.cells #[.int .u8 0] 5))) := btr HBW.out hB2 HBW.out.size
  refine hK _ _ (fun _ => HV2.out.cell1) ?_
  clear hK K hB2
  refine anyT_do (i := 10) rfl (by kernel_rfl) rfl (fun K hK => ?_)
  go_simp
  refine hK _ _ (fun _ => HV2.out.cell1) ?_
  clear hK K
  refine anyT_do (i := 11) rfl (by kernel_rfl) rfl (fun K hK => ?_)
  go_simp
  refine hK _ _ (fun _ => HV2.out.cell1) ?_
  clear hK K
  refine anyT_do (i := 12) rfl (by kernel_rfl) rfl (fun K hK => ?_)
  go_simp
  (go_at_call 39; ((with_reducible refine Calls.mono (write_39 F _ bv _ _ HV2.out.lt) ?_); rintro x w3 ⟨p1, rfl, hs1, hb3⟩))
  have HV3 := Lib.hid (HV2.out.below hb3)
  have HB3 := Lib.hid (btr HB2.out hb3 HB2.out.size)
  have HS1 := Lib.hid hs1
  refine hK _ _ (fun _ => HV3.out.cell1) ?_
  clear hK K hs1 hb3
  refine anyT_do (i := 20) rfl (by kernel_rfl) rfl (fun K hK => ?_)
  go_simp
  (go_at_call 39; ((with_reducible refine Calls.mono (write_39 F _ bv _ _ HV3.out.lt) ?_); rintro x w4 ⟨p2, rfl, hs2, hb4⟩))
  have HV4 := Lib.hid (HV3.out.below hb4)
  have HB4 := Lib.hid (btr HB3.out hb4 HB3.out.size)
  have HS1' := Lib.hid (HS1.out.below hb4)
  have HS2 := Lib.hid hs2
  refine hK _ _ (fun _ => HV4.out.cell1) ?_
  clear hK K hs2 hb4
  refine anyT_do (i := 21) rfl (by kernel_rfl) rfl (fun K hK => ?_)
  go_simp
  have ha := alloc_below w4 (.cells #[stepV p1, stepV p2] 72)
  have HV5 := Lib.hid (HV4.out.below ha)
  have HB5 : Hid (Below w.heap.size w (w4.alloc (.cells #[stepV p1, stepV p2] 72))) := btr HB4.out ha HB4.out.size
  have HST : Hid (StepsAt F (w4.alloc (.cells #[stepV p1, stepV p2] 72)) bv (.slice (some ⟨w4.heap.size, 0, none⟩) 2 2) [(e + 1, L ++ [0]), (e, [1])]) := by
    refine ⟨[((e + 1, L ++ [0]), stepV p1), ((e, [1]), stepV p2)], rfl, World.ownsRow_lit w4 #[stepV p1, stepV p2] 2 (Nat.zero_le _) (by unfold maxLen; omega) rfl, ?_, ?_⟩
    · intro q hq
      simp only [List.mem_cons, List.not_mem_nil, or_false] at hq
      rcases hq with rfl | rfl
      · exact ⟨rfl, HS1'.out.below ha⟩
      · exact ⟨rfl, HS2.out.below ha⟩
    · intro j hj hf
      injection hj with hj
      have h1 := HV4.out.lt j hf
      have h2 : w4.heap.size = j := hj
      omega
  refine hK _ _ (fun _ => HV5.out.cell1) ?_
  clear hK K ha
  refine anyT_do (i := 22) rfl (by kernel_rfl) rfl (fun K hK => ?_)
  go_simp
  (go_at_call 41; ((with_reducible refine Calls.mono (do_41 F _ bv b e m false D HV5.out HOK.out hpc _ _ HST.out (by simp) (by have h1 := HE.out; intro q hq; simp only [List.mem_cons, List.not_mem_nil, or_false] at hq; rcases hq with rfl | rfl <;> simp at h1 ⊢ <;> omega)) ?_); rintro x w6 ⟨rfl, F6, hv6, hs6⟩))
  have HV6 := Lib.hid hv6
  have HS6 := Lib.hid hs6
  refine hK _ _ (fun _ => HV6.out.cell1) ?_
  clear hK K hv6 hs6
  refine anyT_do (i := 23) rfl (by kernel_rfl) rfl (fun K hK => ?_)
  go_simp
  refine hK _ _ (fun h => absurd rfl h) ?_
  clear hK K
  refine anyT_done (by kernel_rfl) ?_ _
  clear kz
  have k1 := HV6.out.cell1
  have k2 : w6.cell? ⟨bv, 2, none⟩ = some (.int .i64 m) := by rw [blk_cell HV6.out.vault]; rfl
  have f1 : w6.frozen? ⟨bv, 1, none⟩ = false := blk_frozen HV6.out.vault 1
  have f2 : w6.frozen? ⟨bv, 2, none⟩ = false := blk_frozen HV6.out.vault 2
  have HSS : Hid (Step (With F bv) w (With F6 bv) w6) := ((Step.of_below HB5.out).trans HS6.out)
  rcases run_err D [(e + 1, L ++ [0]), (e, [1])] with hE | hE
  · have hp : runD D [(e + 1, L ++ [0]), (e, [1])] = ((runD D [(e + 1, L ++ [0]), (e, [1])]).1, 0) := by rw [← hE]
    generalize (runD D [(e + 1, L ++ [0]), (e, [1])]).1 = D6 at *
    rw [hp] at HV6
    have HP := Lib.hid hp
    clear hp
    rw [hE]
    clear hE
    go_wp2_with fail
    go_ret
    rw [HP.out]
    refine ⟨rfl, F6, ?_, HSS.out.trans ((Step.only_more (Only.setCell (Only.setCell (Only.refl bv w6) 1 _) 2 _)))⟩
    have hv := HV6.out.only (e' := ((e + n : Nat) : Int)) (m' := ((m + 1 : Nat) : Int)) (br' := false) (Only.setCell (Only.setCell (Only.refl bv w6) 1 (.int .i64 ((e : Int) + ((L.length : Int) + 1)))) 2 (.int .i64 ((m : Int) + 1))) (by
      have h1 := (blk_set (blk_set HV6.out.vault 1 (.int .i64 ((e : Int) + ((L.length : Int) + 1)))) 2 (.int .i64 ((m : Int) + 1)))
      rw [show ((e + n : Nat) : Int) = (e : Int) + ((L.length : Int) + 1) from by rw [HN.out]; omega]
      exact h1)
    exact hv
  · have hp : runD D [(e + 1, L ++ [0]), (e, [1])] = ((runD D [(e + 1, L ++ [0]), (e, [1])]).1, 70) := by rw [← hE]
    generalize (runD D [(e + 1, L ++ [0]), (e, [1])]).1 = D6 at *
    rw [hp] at HV6
    have HP := Lib.hid hp
    clear hp
    rw [hE]
    clear hE
    go_wp2_with fail
    go_ret
    rw [HP.out]
    exact ⟨rfl, F6, HV6.out, HSS.out⟩
end Go.Proofs.YtgdkdihedgiegaaDoor
