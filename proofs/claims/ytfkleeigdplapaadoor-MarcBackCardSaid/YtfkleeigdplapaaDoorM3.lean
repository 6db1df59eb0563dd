/-
  The walk of Made.
-/
import Derived.Test.YtfkleeigdplapaaDoorM2
import Derived.Test.YtfkleeigdplapaaDoorTail
import Derived.Deep.AppendLies
namespace Go.Proofs.YtfkleeigdplapaaDoor
open Go.RowKit
attribute [local go_sem ↓] Go.wp_at_zero Go.wp_at_succ

theorem mod_at (z : Int) (M : Nat) (h : 1 ≤ M) (h2 : M ≤ 1000000) (w : World) : Calls Tryd.prog 21 #[.int .i64 z, .int .i64 M] w fun e w' => ∃ m : Nat, m < M ∧ e = .returned (.int .i64 m) ∧ w = w' := by
  refine (mod_21 z M w (by omega) (by omega)).mono fun e w' ⟨he, hw⟩ => ?_
  have h3 : 0 ≤ z.emod M := Int.emod_nonneg z (by omega)
  have h4 : z.emod M < M := Int.emod_lt_of_pos z (by omega)
  exact ⟨(z.emod M).toNat, by omega, by rw [he, Int.toNat_of_nonneg h3], hw⟩
theorem slice_nil2 (lo hi : Nat) (w : World) : SubsAt lo hi w (.slice none 0 0) [] := ⟨none, 0, rfl, fun h => absurd rfl h⟩
def wordAt (k : Nat) : Bs := wordsL.getD k []
theorem wordAt_mem {k : Nat} (h : k < 10) : wordAt k ∈ wordsL := getD_mem h
theorem words_at (w : World) : Calls Tryd.prog 34 #[] w fun e w' => e = .returned (.slice (some ⟨w.heap.size, 0, none⟩) 10 10) ∧ Below w.heap.size w w' ∧ w.heap.size < w'.heap.size ∧ (∀ k, k < 10 → w'.cell? ⟨w.heap.size, k, none⟩ = some (S (wordAt k))) :=
  (words_34 w).mono fun e w' ⟨he, hw⟩ => by
    subst hw
    exact ⟨he, alloc_below1 _ _, by simp, fun k hk => strs_cell w wordsL 9 k hk⟩
set_option maxHeartbeats 8000000 in
set_option maxRecDepth 100000 in
theorem made_15 (n : Nat) (x : Value) (w : World) (hx : IntsAt w x n) (hn : n ≤ maxLen) : Calls Tryd.prog 15 #[x] w (MadePost n w) := by
  unfold maxLen at hn
  obtain ⟨a, cap, rfl, hc⟩ := hx
  have HC := Lib.hid hc
  clear hc
  go_enter Tryd.func15, Tryd.ntmps15
  go_wp2_with fail
  go_loopw [5] (fun i wr => ∃ (k : Nat) (kd lv : UInt8) (fs : List FieldD) (va : Option Addr) (vc : Nat), i = .int .i64 k ∧ fs.length = k ∧ k ≤ 12 ∧ k ≤ n ∧ Hid (letterB kd = true) ∧ Hid (letterB lv = true) ∧ Hid (∀ f ∈ fs, GoodF f) ∧ Hid (MadeSt w.heap.size w wr kd lv (.slice va fs.length vc) fs)) (fun i _ => 12 - (intOf i).toNat)
  case atStart => exact ⟨0, 97, 109, [], none, 0, rfl, rfl, by omega, by omega, (show letterB 97 = true by decide), (show letterB 109 = true by decide), by simp [Hid], made_init w⟩
  case round =>
    obtain ⟨k, kd, lv, fs, va, vc, rfl, hfl, hk, hkn, HK, HL, HG, HS⟩ := hrel
    have HFL := Lib.hid hfl
    have hfl2 : fs.length ≤ 12 := by omega
    clear hfl
    by_cases hlt : k < n ∧ k < 12
    · obtain ⟨h1, h2⟩ := hlt
      obtain ⟨b, off, rfl, hbz, hcs⟩ := HC.out (by omega)
      have hst := HS.out
      have hbw := hst.st.below
      obtain ⟨q0, hq0⟩ := hcs (3 * k) (by omega)
      obtain ⟨q1, hq1⟩ := hcs (3 * k + 1) (by omega)
      obtain ⟨q2, hq2⟩ := hcs (3 * k + 2) (by omega)
      rw [← hbw.cell (p := ⟨b, _, none⟩) hbz, Nat.mul_comm] at hq0 hq1 hq2
      rw [← Nat.add_assoc] at hq1 hq2
      have HQ := Lib.hid (hst.keep (alloc_below1 wr (Obj.cells #[.int .i64 q0, .int .i64 q1, .int .i64 q2] 23)))
      clear hst hbw hcs HC
      go_upto_if 27 with fail
      go_cut [] (fun wx => ∃ (kd lv : UInt8), Hid (letterB kd = true) ∧ Hid (letterB lv = true) ∧ Hid (MadeSt w.heap.size w wx kd lv (.slice va fs.length vc) fs) ∧ wr.heap.size < wx.heap.size ∧
        wx.cell? ⟨wr.heap.size, 0, none⟩ = some (.int .i64 q0) ∧ wx.cell? ⟨wr.heap.size, 1, none⟩ = some (.int .i64 q1) ∧ wx.cell? ⟨wr.heap.size, 2, none⟩ = some (.int .i64 q2))
      case first =>
        by_cases hk0 : k = 0
        · subst hk0
          have c0 := HQ.out.st.c0
          have c1 := HQ.out.st.c1
          have x0 := HQ.out.x0
          have x1 := HQ.out.x1
          have hz := HQ.out.big
          go_wp2_with (first
            | (go_at_call_of 21 (Value.int IntKind.i64 q2); ((with_reducible refine Calls.mono (mod_at q2 5 (by decide) (by decide) _) ?_); rintro e w' ⟨m2, hm2, rfl, rfl⟩))
            | (go_at_call_of 21 (Value.int IntKind.i64 q1); ((with_reducible refine Calls.mono (mod_at q1 2 (by decide) (by decide) _) ?_); rintro e w' ⟨m1, hm1, rfl, rfl⟩)))
          go_meet
          have hz2 : w.heap.size + 2 ≤ wr.heap.size := by simpa using hz
          refine ⟨[97, 99, 101, 103, 106][m2], [109, 115][m1], ?_, ?_, (HQ.out.setKind _).setLevel _, by simp, by clear HQ c0 c1 x0 x1; go_simp, by clear HQ c0 c1 x0 x1; go_simp, by clear HQ c0 c1 x0 x1; go_simp⟩
          · have := kind_fine m2 hm2; rwa [getD_at _ (by simpa using hm2)] at this
          · have := level_fine m1 hm1; rwa [getD_at _ (by simpa using hm1)] at this
        · go_wp2_with fail
          go_meet
          exact ⟨kd, lv, HK, HL, HQ, by simp, by clear HQ; go_simp, by clear HQ; go_simp, by clear HQ; go_simp⟩
      case rest =>
        clear HQ HS HK HL hq0 hq1 hq2
        obtain ⟨kd, lv, HK, HL, HS, hwz, c0, c1, c2⟩ := hcut
        generalize wc = w1 at *
        go_wp2_with (first
          | (go_at_call 34; ((with_reducible refine Calls.mono (words_at _) ?_); rintro e w2 ⟨rfl, hb2, hz2, hwd⟩; have HWD := Lib.hid hwd; clear hwd; have HS2 := Lib.hid (HS.out.keep hb2); obtain ⟨hcc2, hff2⟩ := bcell hb2; have hwz2 : wr.heap.size < w2.heap.size := (by omega); have hbg2 := HS2.out.big))
          | (go_at_call_of 21 (Value.int IntKind.i64 q0); ((with_reducible refine Calls.mono (mod_at q0 12 (by decide) (by decide) _) ?_); rintro e w' ⟨m0, hm0, rfl, rfl⟩; obtain ⟨T, htg, HTM⟩ : ∃ T, w2.cell? ⟨w.heap.size + 1 + 1, m0, none⟩ = some (S T) ∧ Hid (T ∈ tagsL) := ⟨_, HS2.out.tags m0 hm0, getD_mem hm0⟩)))
        have htl : 2 ≤ T.length := by have := isTag_len (tags_fine T HTM.out).1; omega
        obtain ⟨cb, hcb⟩ : ∃ cb, ctrlB T = cb := ⟨_, rfl⟩
        have H35 : Hid (∀ W, Calls Tryd.prog 35 #[S T] W fun e w' => e = .returned (.bool cb) ∧ W = w') := fun W => by have := control_35 T W htl; rw [hcb] at this; exact this
        have HCB := Lib.hid hcb
        clear hcb
        ((with_reducible refine Calls.mono (H35.out _) ?_); rintro e w' ⟨rfl, rfl⟩)
        go_upto_if 50 with fail
        go_cut [] (fun wx => ∃ (fi fx : Bs) (ss : List SubD) (da : Option Addr) (dc : Nat), Hid (GoodF ⟨T, fi, fx, ss⟩) ∧ Below w2.heap.size w2 wx ∧ w2.heap.size < wx.heap.size ∧ wx.cell? ⟨w2.heap.size, 0, none⟩ = some (S T) ∧ wx.cell? ⟨w2.heap.size, 1, none⟩ = some (S fi) ∧
          wx.cell? ⟨w2.heap.size, 2, none⟩ = some (S fx) ∧ wx.cell? ⟨w2.heap.size, 3, none⟩ = some (.slice da ss.length dc) ∧ Hid (SubsAt (w2.heap.size + 1) wx.heap.size wx (.slice da ss.length dc) ss))
        case first =>
          cases cb
          · have H3 : Hid (∃ m3 : Nat, m3 < 3 ∧ ∀ W, Calls Tryd.prog 21 #[.int .i64 q1, .int .i64 3] W fun e w' => e = .returned (.int .i64 m3) ∧ W = w') := by
              have g3 : 0 ≤ q1.emod 3 := Int.emod_nonneg q1 (by omega)
              have g4 : q1.emod 3 < 3 := Int.emod_lt_of_pos q1 (by omega)
              exact ⟨(q1.emod 3).toNat, by omega, fun W => by rw [Int.toNat_of_nonneg g3]; exact mod_21 q1 3 W (by omega) (by omega)⟩
            obtain ⟨m3, hm3, hc3⟩ := H3.out
            have HC3 := Lib.hid hc3
            clear hc3 H3
            have HI0 := Lib.hid ((SubSt.init w2 T).alloc indsO)
            have HQ0 : Hid ((((w2.alloc (Obj.cells #[S T, S [], S [], .slice none 0 0] 57)).alloc indsO).cell? ⟨wr.heap.size, 1, none⟩ = some (.int .i64 q1)) ∧ (((w2.alloc (Obj.cells #[S T, S [], S [], .slice none 0 0] 57)).alloc indsO).cell? ⟨wr.heap.size, 2, none⟩ = some (.int .i64 q2))) := by
              constructor <;> go_simp
            have HIC : Hid (∀ k, k < 5 → ∃ I, ((w2.alloc (Obj.cells #[S T, S [], S [], .slice none 0 0] 57)).alloc indsO).cell? ⟨w2.heap.size + 1, k, none⟩ = some (S I) ∧ Hid (I ∈ indsL)) := fun k hk => by
              have := strs_cell (w2.alloc (Obj.cells #[S T, S [], S [], .slice none 0 0] 57)) indsL 9 k hk
              rw [World.size_alloc] at this
              exact ⟨_, this, getD_mem hk⟩
            have d1 : w2.cell? ⟨wr.heap.size, 1, none⟩ = some (.int .i64 q1) := by rw [hcc2 _ _ hwz]; exact c1
            have d2 : w2.cell? ⟨wr.heap.size, 2, none⟩ = some (.int .i64 q2) := by rw [hcc2 _ _ hwz]; exact c2
            clear hcc2 hff2
            go_wp2_with fail
            generalize ((w2.alloc (Obj.cells #[S T, S [], S [], .slice none 0 0] 57)).alloc indsO) = w5 at *
            ((with_reducible refine Calls.mono (mod_at q2 5 (by decide) (by decide) _) ?_); rintro e w' ⟨m5, hm5, rfl, rfl⟩; obtain ⟨I, hIc, HIM⟩ := HIC.out m5 hm5)
            obtain ⟨_, b1, ⟨l0, l1, l2, l3, f1, f2, f3⟩, _⟩ := HI0.out
            simp only at l0 l1 l2 l3
            have HI1 := Lib.hid (HI0.out.setInd I)
            generalize wr.heap.size = Qb at *
            clear HI0 HIC HQ0
            go_wp2_with fail
            clear hIc l0 l1 l2 l3 f1 f2 f3 b1
            go_loopw [9] (fun i wx => ∃ (k2 : Nat) (ss : List SubD) (da : Option Addr) (dc : Nat), i = .int .i64 k2 ∧ Hid (ss.length = k2) ∧ k2 ≤ 3 ∧ ss.length ≤ 3 ∧ Hid (∀ s ∈ ss, GoodS s) ∧ Hid (SubSt w2.heap.size w2 wx T I (.slice da ss.length dc) ss)) (fun i _ => 3 - (intOf i).toNat)
            case atStart => exact ⟨0, [], none, 0, rfl, rfl, by omega, by simp, by simp [Hid], HI1⟩
            case round =>
              obtain ⟨k2, ss, da, dc, rfl, HSL, hk2, hsl, HSG, HSS⟩ := hrel
              have hss := HSS.out
              have e1 : wr.cell? ⟨Qb, 1, none⟩ = some (.int .i64 q1) := by rw [hss.below.cell (p := ⟨Qb, 1, none⟩) hwz2]; exact d1
              have e2 : wr.cell? ⟨Qb, 2, none⟩ = some (.int .i64 q2) := by rw [hss.below.cell (p := ⟨Qb, 2, none⟩) hwz2]; exact d2
              by_cases hk3 : k2 < 1 + m3
              · have HWE : Hid (∀ k, k < 10 → wr.cell? ⟨w1.heap.size, k, none⟩ = some (S (wordAt k))) := fun k hk => by
                  rw [hss.below.cell (p := ⟨w1.heap.size, k, none⟩) hz2]; exact HWD.out k hk
                have hbg5 := hss.big
                have e3 := hss.loc.c3
                have ef3 := hss.loc.f3
                clear hss
                go_wp2_with (go_at_call 21; ((with_reducible refine Calls.mono (HC3.out _) ?_); rintro e w' ⟨rfl, rfl⟩))
                have hS : (fun w' : World => w'.cell? ⟨w2.heap.size, 3, none⟩ = some (.slice da ss.length dc) ∧ w'.cell? ⟨Qb, 1, none⟩ = some (.int .i64 q1) ∧ w'.cell? ⟨Qb, 2, none⟩ = some (.int .i64 q2) ∧ ∀ k, k < 10 → w'.cell? ⟨w1.heap.size, k, none⟩ = some (S (wordAt k))) wr.drew := ⟨e3, e1, e2, HWE.out⟩
                have hSA : ∀ o : Obj, (fun w' : World => w'.cell? ⟨w2.heap.size, 3, none⟩ = some (.slice da ss.length dc) ∧ w'.cell? ⟨Qb, 1, none⟩ = some (.int .i64 q1) ∧ w'.cell? ⟨Qb, 2, none⟩ = some (.int .i64 q2) ∧ ∀ k, k < 10 → w'.cell? ⟨w1.heap.size, k, none⟩ = some (S (wordAt k))) (wr.alloc o).drew := fun o => ⟨show (wr.alloc o).cell? _ = _ from by rw [alloc_old _ _ _ _ (by omega)]; exact e3, show (wr.alloc o).cell? _ = _ from by rw [alloc_old _ _ _ _ (by omega)]; exact e1, show (wr.alloc o).cell? _ = _ from by rw [alloc_old _ _ _ _ (by omega)]; exact e2, fun k hk => show (wr.alloc o).cell? _ = _ from by rw [alloc_old _ _ _ _ (by omega)]; exact HWE.out k hk⟩
                refine wp_region_T (fun w' : World => w'.cell? ⟨w2.heap.size, 3, none⟩ = some (.slice da ss.length dc) ∧ w'.cell? ⟨Qb, 1, none⟩ = some (.int .i64 q1) ∧ w'.cell? ⟨Qb, 2, none⟩ = some (.int .i64 q2) ∧ ∀ k, k < 10 → w'.cell? ⟨w1.heap.size, k, none⟩ = some (S (wordAt k))) 26 (by kernel_rfl) ?_
                refine anyT_take (i := 0) (v := ?_) rfl (by kernel_rfl) (by kernel_rfl) (by kernel_rfl) (by kernel_rfl) (by decide) (fun _ _ _ h => h) hS (Or.inl ⟨by rfl, ?_⟩) ?_
                rotate_left
                · intro w' _; go_simp; rfl
                refine anyT_take (i := 1) (v := ?_) rfl (by kernel_rfl) (by kernel_rfl) (by kernel_rfl) (by kernel_rfl) (by decide) (fun _ _ _ h => h) hS (Or.inl ⟨by rfl, ?_⟩) ?_
                rotate_left
                · rintro w' ⟨z3, zq1, zq2, zw⟩; go_simp; rfl
                refine anyT_take (i := 2) (v := ?_) rfl (by kernel_rfl) (by kernel_rfl) (by kernel_rfl) (by kernel_rfl) (by decide) (fun _ _ _ h => h) hS (Or.inl ⟨by rfl, ?_⟩) ?_
                rotate_left
                · intro w' _; go_simp; rfl
                refine anyT_take (i := 3) (v := ?_) rfl (by kernel_rfl) (by kernel_rfl) (by kernel_rfl) (by kernel_rfl) (by decide) (fun _ _ _ h => h) hS (Or.inl ⟨by rfl, ?_⟩) ?_
                rotate_left
                · rintro w' ⟨z3, zq1, zq2, zw⟩; go_simp; rfl
                refine anyT_take (i := 4) (v := ?_) rfl (by kernel_rfl) (by kernel_rfl) (by kernel_rfl) (by kernel_rfl) (by decide) (fun _ _ _ h => h) hS (Or.inl ⟨by rfl, ?_⟩) ?_
                rotate_left
                · intro w' _; go_simp; rfl
                refine anyT_take (i := 5) (v := ?_) rfl (by kernel_rfl) (by kernel_rfl) (by kernel_rfl) (by kernel_rfl) (by decide) (fun _ _ _ h => h) hS (Or.inl ⟨by rfl, ?_⟩) ?_
                rotate_left
                · intro w' _; go_simp; rfl
                refine anyT_take (i := 8) (v := ?_) rfl (by kernel_rfl) (by kernel_rfl) (by kernel_rfl) (by kernel_rfl) (by decide) (fun _ _ _ h => h) hS (Or.inl ⟨by rfl, ?_⟩) ?_
                rotate_left
                · intro w' _; go_simp; rfl
                refine anyT_take (i := 9) (v := ?_) rfl (by kernel_rfl) (by kernel_rfl) (by kernel_rfl) (by kernel_rfl) (by decide) (fun _ _ _ h => h) hS (Or.inl ⟨by rfl, ?_⟩) ?_
                rotate_left
                · intro w' _; go_simp; rfl
                refine anyT_take (i := 10) (v := ?_) rfl (by kernel_rfl) (by kernel_rfl) (by kernel_rfl) (by kernel_rfl) (by decide) (fun _ _ _ h => h) hS (Or.inl ⟨by rfl, ?_⟩) ?_
                rotate_left
                · rintro w' ⟨z3, zq1, zq2, zw⟩; go_simp; rfl
                refine anyT_take (i := 11) (v := ?_) rfl (by kernel_rfl) (by kernel_rfl) (by kernel_rfl) (by kernel_rfl) (by decide) (fun _ _ _ h => h) hS (Or.inl ⟨by rfl, ?_⟩) ?_
                rotate_left
                · intro w' _; go_simp; rfl
                refine anyT_take (i := 12) (v := ?_) rfl (by kernel_rfl) (by kernel_rfl) (by kernel_rfl) (by kernel_rfl) (by decide) (fun _ _ _ h => h) hS (Or.inl ⟨by rfl, ?_⟩) ?_
                rotate_left
                · intro w' _; go_simp; rfl
                refine anyT_take (i := 13) (v := ?_) rfl (by kernel_rfl) (by kernel_rfl) (by kernel_rfl) (by kernel_rfl) (by decide) (fun _ _ _ h => h) hS (Or.inl ⟨by rfl, ?_⟩) ?_
                rotate_left
                · intro w' _; go_simp; rfl
                refine anyT_take (i := 14) (v := ?_) rfl (by kernel_rfl) (by kernel_rfl) (by kernel_rfl) (by kernel_rfl) (by decide) (fun _ _ _ h => h) hS (Or.inl ⟨by rfl, ?_⟩) ?_
                rotate_left
                · rintro w' ⟨z3, zq1, zq2, zw⟩; go_simp; rfl
                refine anyT_take (i := 15) (v := ?_) rfl (by kernel_rfl) (by kernel_rfl) (by kernel_rfl) (by kernel_rfl) (by decide) (fun _ _ _ h => h) hS (Or.inl ⟨by rfl, ?_⟩) ?_
                rotate_left
                · intro w' _; go_simp; rfl
                refine anyT_take (i := 16) (v := ?_) rfl (by kernel_rfl) (by kernel_rfl) (by kernel_rfl) (by kernel_rfl) (by decide) (fun _ _ _ h => h) hS (Or.inl ⟨by rfl, ?_⟩) ?_
                rotate_left
                · intro w' _; go_simp; rfl
                refine anyT_take (i := 17) (v := ?_) rfl (by kernel_rfl) (by kernel_rfl) (by kernel_rfl) (by kernel_rfl) (by decide) (fun _ _ _ h => h) hS (Or.inl ⟨by rfl, ?_⟩) ?_
                rotate_left
                · intro w' _; go_simp; rfl
                refine anyT_take (i := 18) (v := ?_) rfl (by kernel_rfl) (by kernel_rfl) (by kernel_rfl) (by kernel_rfl) (by decide) (fun _ _ _ h => h) hS (Or.inl ⟨by rfl, ?_⟩) ?_
                rotate_left
                · intro w' _; go_simp; rfl
                refine anyT_do (i := 6) rfl (by kernel_rfl) rfl (fun K hK => ?_)
                go_simp
                (go_at_call 21; ((with_reducible refine Calls.mono (mod_at _ 4 (by decide) (by decide) _) ?_); rintro e w' ⟨m4, hm4, rfl, rfl⟩))
                refine hK _ _ (fun _ => hS) ?_
                clear hK K
                have hm4i : (m4 : Int) < 4 := by omega
                refine anyT_take (i := 7) (v := ?_) rfl (by kernel_rfl) (by kernel_rfl) (by kernel_rfl) (by kernel_rfl) (by decide) (fun _ _ _ h => h) hS (Or.inl ⟨by rfl, ?_⟩) ?_
                rotate_left
                · intro w' _; go_simp; rfl
                refine anyT_do (i := 19) rfl (by kernel_rfl) rfl (fun K hK => ?_)
                go_simp
                (go_at_call 21; ((with_reducible refine Calls.mono (mod_at _ 10 (by decide) (by decide) _) ?_); rintro e w' ⟨m10, hm10, rfl, rfl⟩))
                refine hK _ _ (fun _ => hS) ?_
                clear hK K
                have hm10i : (m10 : Int) < 10 := by omega
                refine anyT_take (i := 20) (v := ?_) rfl (by kernel_rfl) (by kernel_rfl) (by kernel_rfl) (by kernel_rfl) (by decide) (fun _ _ _ h => h) hS (Or.inl ⟨by rfl, ?_⟩) ?_
                rotate_left
                · intro w' _; go_simp; rfl
                refine anyT_take (i := 21) (v := ?_) rfl (by kernel_rfl) (by kernel_rfl) (by kernel_rfl) (by kernel_rfl) (by decide) (fun _ _ _ h => h) hS (Or.inl ⟨by rfl, ?_⟩) ?_
                rotate_left
                · rintro w' ⟨z3, zq1, zq2, zw⟩; have zy := zw m10 hm10; go_simp; rfl
                refine anyT_take (i := 22) (v := ?_) rfl (by kernel_rfl) (by kernel_rfl) (by kernel_rfl) (by kernel_rfl) (by decide) (fun _ _ _ h => h) hS (Or.inl ⟨by rfl, ?_⟩) ?_
                rotate_left
                · intro w' _; go_simp; rfl
                obtain ⟨i0, hi, hi0, hi1, hi2⟩ := info_parts i59'
                have HII := Lib.hid hi
                have HI0 := Lib.hid hi0
                have HI1 := Lib.hid hi1
                have HI2 := Lib.hid hi2
                clear hi hi0 hi1 hi2
                refine anyT_do (i := 23) rfl (by kernel_rfl) rfl (fun K hK => ?_)
                go_simp
                refine hK _ _ (fun _ => hSA _) ?_
                clear hK K
                refine anyT_do (i := 24) rfl (by kernel_rfl) rfl (fun K hK => ?_)
                refine wp_append_lies _ _ _ 55 rfl (w2.heap.size + 1) 59 i0 (.agg #[.int .u8 0, .string ⟨#[]⟩]) 2 24 Tryd.underlying55 HII.out HI0.out HI1.out HI2.out rfl (by omega) (.slice da ss.length dc) ss.length _ (by rfl) (HSS.out.alloc _).drew.own ⟨wr.heap.size, 0, none⟩ 1 1 [.int .u8 ([97, 98, 99, 48] : Bs)[m4].toNat, S (wordAt m10)] (by rfl) rfl (fun j v hj => cell_two_new' wr _ _ _ j v hj) (by simp [Value.oneCell']) (by omega) (by unfold maxLen; omega) (by omega) (by simp; omega) _ rfl ?_
                intro g cap8 w8 hown8 hgw hlie hlt8
                have HO8 := Lib.hid hown8
                have HG8 := Lib.hid hgw
                obtain ⟨n3, nf3, nold⟩ := ((HSS.out.alloc (Obj.cells #[.int .u8 ([97, 98, 99, 48] : Bs)[m4].toNat, S (wordAt m10)] 59)).drew).far _ hgw
                have NO := Lib.hid nold
                clear hown8 hgw nold
                have hS8 : (fun w' : World => w'.cell? ⟨w2.heap.size, 3, none⟩ = some (.slice da ss.length dc) ∧ w'.cell? ⟨Qb, 1, none⟩ = some (.int .i64 q1) ∧ w'.cell? ⟨Qb, 2, none⟩ = some (.int .i64 q2) ∧ ∀ k, k < 10 → w'.cell? ⟨w1.heap.size, k, none⟩ = some (S (wordAt k))) w8 := ⟨n3, by rw [NO.out _ _ hwz2]; exact (hSA _).2.1, by rw [NO.out _ _ hwz2]; exact (hSA _).2.2.1, fun k hk => by rw [NO.out _ _ hz2]; exact (hSA _).2.2.2 k hk⟩
                refine hK _ _ (fun _ => hS8) ?_
                clear hK K
                refine anyT_do (i := 25) rfl (by kernel_rfl) rfl (fun K hK => ?_)
                go_simp
                refine hK _ _ (fun _ => hS8) ?_
                clear hK K
                refine anyT_do (i := 26) rfl (by kernel_rfl) rfl (fun K hK => ?_)
                go_simp
                refine hK _ _ (fun h => absurd rfl h) ?_
                clear hK K
                refine anyT_done (by kernel_rfl) ?_ _
                go_wp2_with fail
                go_roundw
                case rel =>
                  refine ⟨k2 + 1, ss ++ [⟨([97, 98, 99, 48] : Bs)[m4], wordAt m10⟩], some ⟨g, 0, none⟩, cap8, by go_num, ?_, by omega, by have := HSL.out; simp; omega, ?_, ?_⟩
                  · rw [List.length_append, HSL.out]; rfl
                  · intro s hs
                    rcases List.mem_append.1 hs with hs | hs
                    · exact HSG.out s hs
                    · simp at hs; subst hs; exact ⟨wordAt_mem hm10, by have := code_fine m4 hm4; rwa [getD_at _ (by simpa using hm4)] at this⟩
                  · have := ((HSS.out.alloc (Obj.cells #[.int .u8 ([97, 98, 99, 48] : Bs)[m4].toNat, S (wordAt m10)] 59)).drew).app ⟨([97, 98, 99, 48] : Bs)[m4], wordAt m10⟩ HO8.out HG8.out
                    simpa [Hid] using this
                case measure => simp [intOf]; omega
              · have HSZ : Hid (1 ≤ ss.length) := by have := HSL.out; show _ ≤ _; omega
                clear hss
                go_wp2_with (go_at_call 21; ((with_reducible refine Calls.mono (HC3.out _) ?_); rintro e w' ⟨rfl, rfl⟩))
                go_meet
                have hss := HSS.out
                exact ⟨I, [], ss, da, dc, good_data HTM.out HIM.out HSG.out HSZ.out hsl HCB.out, hss.below, hss.big, hss.loc.c0, hss.loc.c1, hss.loc.c2, hss.loc.c3, owns_subs hss.own (Nat.le_refl _)⟩
          · go_wp2_with (go_at_call_of 21 (Value.int IntKind.i64 q1); ((with_reducible refine Calls.mono (mod_at q1 10 (by decide) (by decide) _) ?_); rintro e w' ⟨m1, hm1, rfl, rfl⟩; obtain ⟨X, hxc, HXM⟩ : ∃ X, w2.cell? ⟨w1.heap.size, m1, none⟩ = some (S X) ∧ Hid (X ∈ wordsL) := ⟨_, HWD.out m1 hm1, wordAt_mem hm1⟩))
            go_meet
            exact ⟨[], X, [], none, 0, good_ctrl HTM.out HXM.out HCB.out, alloc_below1 _ _, by simp, by clear hcc2 hff2; go_simp, by clear hcc2 hff2; go_simp, by clear hcc2 hff2; go_simp, by clear hcc2 hff2; go_simp, slice_nil2 _ _ _⟩
        case rest =>
          obtain ⟨fi, fx, ss, da, dc, HGF, hbx, hzx, l0, l1, l2, l3, HSD⟩ := hcut
          generalize wc = w4 at *
          have hst4 := HS2.out.keep hbx
          obtain ⟨ps, hp1, hp2, hp3⟩ := hst4.st.own.ex
          have HP1 := Lib.hid hp1
          have HP2 := Lib.hid hp2
          have HP3 := Lib.hid hp3
          have HFAR := Lib.hid hst4.farc
          have HST4 := Lib.hid hst4
          have hbg4 := hst4.big
          have m2 := hst4.st.c2
          have mf := hst4.st.x2
          have HV := Lib.hid (fun g hg => (hp3.lt g hg).2)
          obtain ⟨i0, hi, hi0, hi1, hi2⟩ := info_parts i57'
          have HI := Lib.hid hi
          have HI0 := Lib.hid hi0
          have HI1 := Lib.hid hi1
          have HI2 := Lib.hid hi2
          have HVO := Lib.hid (fun g (hg : (Value.slice va fs.length vc).ownBlock = some g) => (((HS2.out.st.own.ex).choose_spec.2.2).lt g hg).2)
          clear hst4 hp1 hp2 hp3 hi hi0 hi1 hi2 hcc2 hff2 HS HWD H35 HCB HS2
          go_wp2_with (at_builtin; refine wpList_append_own_at _ rfl _ _ 25 rfl (w.heap.size + 2) 57 i0 (.agg #[.string ⟨#[]⟩, .string ⟨#[]⟩, .string ⟨#[]⟩, .slice none 0 0]) 4 72 Tryd.underlying25 HI.out HI0.out HI1.out HI2.out rfl (by omega) (.slice va fs.length vc) fs.length _ rfl (HP3.out.alloc _) ⟨w4.heap.size, 0, none⟩ 1 1 [S T, S fi, S fx, .slice da ss.length dc] rfl rfl (cell_four_new' _ _ _ _ _ _) (by simp [Value.oneCell']) (by unfold maxLen; omega) (by omega) (by simp; omega) ?_; intro v' w5 hown5 hgw _ hat; obtain ⟨va', vc', rfl⟩ := owns_shape hown5; have HO5 := Lib.hid hown5; have HG5 := Lib.hid hgw; have HAT := Lib.hid hat; obtain ⟨e5, f5⟩ := HFAR.out _ _ hgw; clear hown5 hgw hat)
          go_roundw
          case rel =>
            refine ⟨k + 1, kd, lv, fs ++ [⟨T, fi, fx, ss⟩], va', vc', by go_num, by rw [List.length_append, HFL.out]; rfl, by omega, by omega, HK, HL, ?_, ?_⟩
            · intro f hf
              rcases List.mem_append.1 hf with hf | hf
              · exact HG.out f hf
              · simp at hf; subst hf; exact HGF.out
            · have := HST4.out.app _ ⟨T, fi, fx, ss⟩ (.slice da ss.length dc) ps HP1.out HP2.out HP3.out (SubsOff.of HSD.out (by omega) (fun g hg => by have := HVO.out g hg; omega)) HO5.out HG5.out HAT.out
              simpa [Hid] using this
          case measure => simp [intOf]; omega
    · have k0 := HS.out.st.z0
      have k1 := HS.out.st.z1
      have k2 := HS.out.st.z2
      have g0 := HS.out.st.y0
      have g1 := HS.out.st.y1
      have g2 := HS.out.st.y2
      have m2 := HS.out.st.c2
      have c0 := HS.out.st.c0
      have c1 := HS.out.st.c1
      have hbg := HS.out.big
      go_wp2_with fail
      all_goals
        refine bodyPost_ret (v := .agg #[.int .u8 kd.toNat, .int .u8 lv.toNat, .slice va fs.length vc]) (by simp only [results, Tryd.results15]; go_simp) rfl ?_
        refine madePost_of HK.out HL.out HG.out (by have := HFL.out; omega) (((HS.out.st.below.setCell (Nat.le_refl _) _).setCell (Nat.le_refl _) _).setCell (Nat.le_refl _) _) rfl ?_
        exact (HS.out.st.own.keep (fun j hj _ => by rw [Below.heap_setCell _ _ _ _ (by simp; omega), Below.heap_setCell _ _ _ _ (by simp; omega), Below.heap_setCell _ _ _ _ (by simp; omega)]) (by simp)).fields (by omega)
end Go.Proofs.YtfkleeigdplapaaDoor
