/-
  The program's Write and Right whole; parses; example; sanity.
  The example's record, and sanity: the chapter's examples answer as they should.
  sanity: the chapter's examples answer as they should.
  Small functions of the laws' text: digits and wrapped.
-/
import Derived.Test.YtfkleeigdplapaaDoorP21
import Derived.Test.YtfkleeigdplapaaDoorP15
import Derived.Test.YtfkleeigdplapaaDoorW8
import Derived.Test.YtfkleeigdplapaaDoorBase
import Derived.Deep.RegionHeld3
import Derived.Deep.DeepCutAuto
import Derived.KernelRfl
import Derived.Test.YtfkleeigdplapaaDoorConv
import Derived.Test.YtfkleeigdplapaaDoorP2
import Derived.Test.YtfkleeigdplapaaDoorW5
namespace Go.Proofs.YtfkleeigdplapaaDoor
open Go.RowKit
attribute [local go_sem ↓] Go.wp_at_zero Go.wp_at_succ

theorem write_17 (r : RecD) (v : Value) (w : World) (hs : RecAt 0 w.heap.size w v r) (hsm : Small r.fields) : Calls Tryd.prog 17 #[v] w (WPost r w) := by
  obtain ⟨x, rfl, hf⟩ := hs
  cases h : (letterB r.kind && letterB r.level)
  · exact write_17_letter r x w h
  · simp only [Bool.and_eq_true] at h
    exact write_17_rest r x w hf hsm h.1 h.2
theorem writeR_2 (r : RecD) : (writeR r).2 = wrongR r := by
  unfold writeR; split
  · rename_i h; rw [h]
  · rfl
theorem right_26 (r : RecD) (v : Value) (w : World) (hs : RecAt 0 w.heap.size w v r) (hsm : Small r.fields) :
   Calls Tryd.prog 26 #[v] w fun e w' => e = .returned (.bool (decide (wrongR r = 0))) ∧ Below w.heap.size w w' := by
  have H17 : Hid (∀ W, Below w.heap.size w W → Calls Tryd.prog 17 #[v] W fun e w' => e = .returned (.tuple #[S (writeR r).1, .int .i64 (wrongR r)]) ∧ Below W.heap.size W w') := fun W hb => by
    have := write_17 r v W ((hs.kept (bkept hb (Nat.le_refl _))).mono (Nat.le_refl _) hb.size) hsm
    rw [← writeR_2]
    exact this
  obtain ⟨x, rfl, hx⟩ := hs
  obtain ⟨a, cap, rfl⟩ := hx.shape
  clear hx
  unfold recV at *
  generalize wrongR r = e at *
  generalize (writeR r).1 = s at *
  go_enter Tryd.func26, Tryd.ntmps26
  go_wp2_with (go_at_call 17; ((with_reducible refine Calls.mono (H17.out _ (alloc_below _ _)) ?_); rintro e w1 ⟨rfl, hb⟩))
  go_ret
  exact ⟨ret_bool (by rw [Bool.eq_iff_iff]; simp), btr (alloc_below w _) hb (by simp)⟩

/-- What a Parse leaves, written out. -/
def PP (kd lv : UInt8) (fs : List FieldD) (a b : Int) (w : World) (e : Ending) (w' : World) : Prop :=
  ∃ sa cap, e = .returned (.tuple #[.agg #[.int .u8 kd.toNat, .int .u8 lv.toNat, .slice sa fs.length cap], .int .i64 a, .int .i64 b]) ∧ Below w.heap.size w w' ∧ FieldsAt w.heap.size w'.heap.size w' (.slice sa fs.length cap) fs
theorem pp_of {l : Bs} {kd lv : UInt8} {fs : List FieldD} {a b : Int} (h : parseR l = (⟨kd, lv, fs⟩, a, b)) {w : World} (e : Ending) (w' : World) (hp : ParsePost l w e w') : PP kd lv fs a b w e w' := by
  obtain ⟨hb, v, he, x, rfl, hf⟩ := hp
  rw [h] at he hf
  simp only at he hf
  obtain ⟨sa, cap, rfl⟩ := hf.shape
  exact ⟨sa, cap, he, hb, hf⟩
theorem parse_pp (l : Bs) (hl : l.length ≤ 400000) : ∃ kd lv fs a b, parseR l = (⟨kd, lv, fs⟩, a, b) ∧ Small fs ∧
    (∀ w, Tabs w → Calls Tryd.prog 18 #[S l] w (PP kd lv fs a b w)) ∧ (∀ w, Calls Tryd.prog 51 #[S l] w (PP kd lv fs a b w)) := by
  obtain ⟨⟨kd, lv, fs⟩, a, b, h⟩ : ∃ r a b, parseR l = (r, a, b) := ⟨_, _, _, rfl⟩
  have hs := parse_small hl
  rw [h] at hs
  exact ⟨kd, lv, fs, a, b, h, hs, fun w hT => (parse_18 l w (by omega) hT).mono (pp_of h), fun w => (parse_51 l w (by omega)).mono (pp_of h)⟩
/-- Two records in memory, compared. -/
theorem same_at (kd lv kd' lv' : UInt8) (fs gs : List FieldD) (x y : Value) (w : World) (hx : FieldsAt 0 w.heap.size w x fs) (hy : FieldsAt 0 w.heap.size w y gs) (hsm : Small fs) :
    Calls Tryd.prog 19 #[.agg #[.int .u8 kd.toNat, .int .u8 lv.toNat, x], .agg #[.int .u8 kd'.toNat, .int .u8 lv'.toNat, y]] w fun e w' => e = .returned (.bool (sameR ⟨kd, lv, fs⟩ ⟨kd', lv', gs⟩)) ∧ Below w.heap.size w w' :=
  same_19 ⟨kd, lv, fs⟩ ⟨kd', lv', gs⟩ _ _ w ⟨x, rfl, hx⟩ ⟨y, rfl, hy⟩ hsm
theorem sameR_refl (r : RecD) : sameR r r = true := (sameR_iff r r).2 rfl
theorem fields_up {lo hi : Nat} {w w' : World} {v : Value} {fs : List FieldD} (h : FieldsAt lo hi w v fs) (hh : hi ≤ w.heap.size) (hb : Below w.heap.size w w') : FieldsAt 0 w'.heap.size w' v fs :=
  (h.kept ((bkept hb hh).mono (Nat.zero_le _) (Nat.le_refl _))).mono (Nat.zero_le _) (Nat.le_trans hh hb.size)
set_option maxHeartbeats 2000000 in
theorem parses_22 (l : Bs) (w : World) (hl : l.length ≤ 400000) (hT : Tabs w) : Calls Tryd.prog 22 #[S l] w fun e w' => e = .returned (.bool true) ∧ Below w.heap.size w w' := by
  obtain ⟨kd, lv, fs, a, b, hp, hsm, h18, h51⟩ := parse_pp l hl
  have H18 := Lib.hid (h18 w hT)
  have H51 := Lib.hid h51
  have HSM := Lib.hid hsm
  clear hp hsm h18 h51 hT
  go_enter Tryd.func22, Tryd.ntmps22
  go_wp2_with (first
    | (go_at_call 18; ((with_reducible refine Calls.mono H18.out ?_); rintro e w1 ⟨sa, cap, rfl, hb1, hf1⟩; have HF1 := Lib.hid hf1; clear hf1))
    | (go_at_call 51; ((with_reducible refine Calls.mono (H51.out _) ?_); rintro e w2 ⟨sa2, cap2, rfl, hb2, hf2⟩; have HF2 := Lib.hid hf2; clear hf2; obtain ⟨hcc, hff⟩ := bcell hb2; have hz2 : w1.heap.size < w2.heap.size := (by have := hb2.size; simp at this; omega)))
    | (go_at_call 19; ((with_reducible refine Calls.mono (same_at kd lv kd lv fs fs (.slice sa fs.length cap) (.slice sa2 fs.length cap2) _ (fields_up (fields_up HF1.out (Nat.le_refl _) (alloc_below1 _ _)) (by simp) (btr hb2 (alloc_below1 _ _) (hb2.size))) (fields_up HF2.out (Nat.le_refl _) (alloc_below1 _ _)) HSM.out) ?_); rintro e w3 ⟨rfl, hb3⟩; rw [sameR_refl])))
  go_ret
  exact ⟨rfl, btr hb1 ((btr (alloc_below1 _ _) (btr hb2 (alloc_below1 _ _) hb2.size) (by simp)).trans (hb3.mono (by simp; omega))) hb1.size⟩
end Go.Proofs.YtfkleeigdplapaaDoor

namespace Go.Proofs.YtfkleeigdplapaaDoor
open Go.RowKit
attribute [local go_sem ↓] Go.wp_at_zero Go.wp_at_succ

/-- A slice whose row is new. -/
theorem slice_new (w : World) (cs : List Value) (t : TypeId) (n cap : Nat) : SliceAt w.heap.size (w.heap.size + 1) (w.alloc (.cells cs.toArray t)) (.slice (some ⟨w.heap.size, 0, none⟩) n cap) n cs :=
  ⟨_, cap, rfl, fun _ => ⟨w.heap.size, 0, rfl, Nat.le_refl _, Nat.lt_succ_self _, fun j x hx => by
    rw [Nat.zero_add]
    exact (World.cell?_alloc_new w cs.toArray t j).trans (by simpa using hx)⟩⟩
theorem slice_nil (lo hi : Nat) (w : World) : SliceAt lo hi w (.slice none 0 0) 0 [] := ⟨none, 0, rfl, fun h => absurd rfl h⟩
def exF1 : FieldD := ⟨[48, 48, 49], [], [120], []⟩
def exF2 : FieldD := ⟨[50, 52, 53], [49, 48], [], [⟨97, [84]⟩]⟩
def exR : RecD := ⟨97, 109, [exF1, exF2]⟩
set_option maxHeartbeats 1000000 in
theorem example_32 (w : World) : Calls Tryd.prog 32 #[] w fun e w' => ∃ sa cap, e = .returned (.agg #[.int .u8 97, .int .u8 109, .slice sa 2 cap]) ∧ Below w.heap.size w w' ∧ FieldsAt w.heap.size w'.heap.size w' (.slice sa 2 cap) exR.fields := by
  go_enter Tryd.func32, Tryd.ntmps32
  go_wp2_with fail
  refine bodyPost_ret (v := .agg #[.int .u8 97, .int .u8 109, .slice (some ⟨w.heap.size + 1 + 1, 0, none⟩) 2 2]) (by simp [results, Tryd.results32, go_sem]) rfl ⟨_, _, rfl, ?_, ?_⟩
  · exact (((Below.refl _ w).alloc (Nat.le_refl _) _).alloc (by simp) _).alloc (by simp; omega) _
  · refine ⟨[(exF1, .slice none 0 0), (exF2, .slice (some ⟨w.heap.size + 1, 0, none⟩) 1 1)], rfl, ?_, ?_⟩
    · intro p hp
      simp only [List.mem_cons, List.not_mem_nil, or_false] at hp
      rcases hp with rfl | rfl
      · exact slice_nil _ _ _
      · have h := slice_new (w.alloc (Obj.cells #[Value.int IntKind.u8 97, Value.int IntKind.u8 109, Value.slice (some { block := w.heap.size + 1 + 1, off := 0 }) 2 2] 27)) (subCells ⟨97, [84]⟩) 59 1 1
        simp only [World.size_alloc] at h
        exact (SliceAt.kept h (bkept (alloc_below _ _) (by simp) |>.mono (Nat.zero_le _) (Nat.le_refl _))).mono (by omega) (by simp)
    · have h := slice_new ((w.alloc (Obj.cells #[Value.int IntKind.u8 97, Value.int IntKind.u8 109, Value.slice (some { block := w.heap.size + 1 + 1, off := 0 }) 2 2] 27)).alloc (Obj.cells #[Value.int IntKind.u8 97, Value.string { data := #[84] }] 59))
        ([(exF1, Value.slice none 0 0), (exF2, Value.slice (some ⟨w.heap.size + 1, 0, none⟩) 1 1)].flatMap fieldCells) 57 2 2
      simp only [World.size_alloc] at h
      exact SliceAt.mono h (by omega) (by simp)
end Go.Proofs.YtfkleeigdplapaaDoor

namespace Go.Proofs.YtfkleeigdplapaaDoor
open Go.RowKit
attribute [local go_sem ↓] Go.wp_at_zero Go.wp_at_succ

abbrev wantL : Bs := [48, 48, 48, 53, 56, 110, 97, 109, 32, 97, 50, 50, 48, 48, 48, 52, 57, 32, 32, 32, 52, 53, 48, 48, 48, 48, 49, 48, 48, 48, 50, 48, 48, 48, 48, 48, 50, 52, 53, 48, 48, 48, 54, 48, 48, 48, 48, 50, 30, 120, 30, 49, 48, 31, 97, 84, 30, 29]
abbrev cutL : Bs := [48, 48, 48, 53, 56, 110, 97, 109, 32, 97, 50, 50, 48, 48, 48, 52, 57, 32, 32, 32, 52, 53, 48, 48, 48, 48, 49, 48, 48, 48, 50, 48, 48, 48, 48, 48, 50, 52, 53, 48, 48, 48, 54, 48, 48, 48, 48, 50, 30, 120, 30, 49, 48, 31, 97, 84, 30]
abbrev turnL : Bs := [48, 48, 48, 53, 56, 110, 97, 109, 32, 99, 50, 50, 48, 48, 48, 52, 57, 32, 32, 32, 52, 53, 48, 48, 48, 48, 49, 48, 48, 48, 50, 48, 48, 48, 48, 48, 50, 52, 53, 48, 48, 48, 54, 48, 48, 48, 48, 50, 30, 120, 30, 49, 48, 31, 97, 84, 30, 29]
theorem ex_right : wrongR exR = 0 := by kernel_rfl
theorem ex_write : writeR exR = (wantL, 0) := by kernel_rfl
theorem ex_parse : parseR wantL = (exR, 0, 0) := by
  have h := parse_back ex_right
  have h2 : writeB exR = wantL := by kernel_rfl
  rwa [h2] at h
theorem ex_cut : parseR cutL = (⟨0, 0, []⟩, 57, 10) := by kernel_rfl
theorem ex_turn : parseR turnL = (⟨0, 0, []⟩, 9, 12) := by kernel_rfl
theorem ex_small : Small exR.fields := ⟨by decide, by decide⟩
theorem parse_at {l : Bs} {kd lv : UInt8} {fs : List FieldD} {a b : Int} (h : parseR l = (⟨kd, lv, fs⟩, a, b)) (hl : l.length ≤ 400000) {w : World} (hT : Tabs w) : Calls Tryd.prog 18 #[S l] w (PP kd lv fs a b w) :=
  (parse_18 l w (by omega) hT).mono (pp_of h)
theorem write_at (r : RecD) (x : Value) (w : World) (hs : FieldsAt 0 w.heap.size w x r.fields) (hsm : Small r.fields) {l : Bs} {n : Int} (h : writeR r = (l, n)) :
    Calls Tryd.prog 17 #[.agg #[.int .u8 r.kind.toNat, .int .u8 r.level.toNat, x]] w fun e w' => e = .returned (.tuple #[S l, .int .i64 n]) ∧ Below w.heap.size w w' := by
  have := write_17 r (recV r x) w ⟨x, rfl, hs⟩ hsm
  unfold WPost at this
  rw [h] at this
  exact this
theorem write_ex (x : Value) (w : World) (hs : FieldsAt 0 w.heap.size w x exR.fields) : Calls Tryd.prog 17 #[.agg #[.int .u8 97, .int .u8 109, x]] w fun e w' => e = .returned (.tuple #[S wantL, .int .i64 0]) ∧ Below w.heap.size w w' :=
  write_at exR x w hs ex_small ex_write
theorem p18_want (w : World) (hT : Tabs w) : Calls Tryd.prog 18 #[S wantL] w fun e w' => ∃ sa cap, e = .returned (.tuple #[.agg #[.int .u8 97, .int .u8 109, .slice sa 2 cap], .int .i64 0, .int .i64 0]) ∧ Below w.heap.size w w' ∧ FieldsAt w.heap.size w'.heap.size w' (.slice sa 2 cap) exR.fields :=
  parse_at ex_parse (by decide) hT
theorem p18_cut (w : World) (hT : Tabs w) : Calls Tryd.prog 18 #[S cutL] w fun e w' => ∃ sa cap, e = .returned (.tuple #[.agg #[.int .u8 0, .int .u8 0, .slice sa 0 cap], .int .i64 57, .int .i64 10]) ∧ Below w.heap.size w w' :=
  (parse_at ex_cut (by decide) hT).mono fun _ _ ⟨a, c, h1, h2, _⟩ => ⟨a, c, h1, h2⟩
theorem p18_turn (w : World) (hT : Tabs w) : Calls Tryd.prog 18 #[S turnL] w fun e w' => ∃ sa cap, e = .returned (.tuple #[.agg #[.int .u8 0, .int .u8 0, .slice sa 0 cap], .int .i64 9, .int .i64 12]) ∧ Below w.heap.size w w' :=
  (parse_at ex_turn (by decide) hT).mono fun _ _ ⟨a, c, h1, h2, _⟩ => ⟨a, c, h1, h2⟩
theorem same_ex (x y : Value) (w : World) (hx : FieldsAt 0 w.heap.size w x exR.fields) (hy : FieldsAt 0 w.heap.size w y exR.fields) :
    Calls Tryd.prog 19 #[.agg #[.int .u8 97, .int .u8 109, x], .agg #[.int .u8 97, .int .u8 109, y]] w fun e w' => e = .returned (.bool true) ∧ Below w.heap.size w w' := by
  have := same_at 97 109 97 109 exR.fields exR.fields x y w hx hy ex_small
  rw [sameR_refl] at this
  exact this
set_option maxHeartbeats 4000000 in
set_option maxRecDepth 100000 in
theorem sanity_13 (w : World) (hT : Tabs w) : Calls Tryd.prog 13 #[] w fun e w' => e = .returned (.bool true) ∧ Below w.heap.size w w' := by
  have HT := Lib.hid (fun W (h : Below w.heap.size w W) => tabs_below hT h)
  clear hT
  go_enter Tryd.func13, Tryd.ntmps13
  go_wp2_with (first
    | (go_at_call 32; ((with_reducible refine Calls.mono (example_32 _) ?_); rintro e w1 ⟨sa, cap, rfl, hb1, hf1⟩; have HF1 := Lib.hid hf1; clear hf1))
    | (go_at_call 17; ((with_reducible refine Calls.mono (write_ex (.slice sa 2 cap) _ (HF1.out.mono (Nat.zero_le _) (Nat.le_refl _))) ?_); rintro e w2 ⟨rfl, hb2⟩; have HB2 := Lib.hid (btr hb1 hb2 hb1.size)))
    | (go_at_call 18; ((with_reducible refine Calls.mono (p18_want _ (HT.out _ HB2.out)) ?_); rintro e w3 ⟨sb, cab, rfl, hb3, hf3⟩; have HF3 := Lib.hid hf3; have HB3 := Lib.hid (btr HB2.out hb3 HB2.out.size); clear hf3; have HB3' := Lib.hid (btr HB3.out (alloc_below1 w3 (.cells #[.int .u8 97, .int .u8 109, .slice sb 2 cab] 27)) HB3.out.size)))
    | (go_at_call 18; ((with_reducible refine Calls.mono (p18_cut _ (HT.out _ HB3'.out)) ?_); rintro e w4 ⟨sc, cac, rfl, hb4⟩; have HB4 := Lib.hid (btr HB3'.out hb4 HB3'.out.size))))
  obtain ⟨hcc4, hff4⟩ := bcell hb4
  have z4 : w3.heap.size < w4.heap.size := by have := hb4.size; simp at this; omega
  have hb4' := Lib.hid (btr HB4.out (alloc_below1 w4 (.cells #[.int .u8 0, .int .u8 0, .slice sc 0 cac] 27)) HB4.out.size)
  go_cut [11, 12] (fun a b wx => a = .int .i64 9 ∧ b = .int .i64 12 ∧ Below w4.heap.size w4 wx)
  case first =>
    go_region_held3 (fun _ => True) (trivial) ((go_at_call 18; ((with_reducible refine Calls.mono (p18_turn _ (HT.out _ (by first | exact hb4'.out.drew | exact (hb4'.out.alloc hb4'.out.size _).drew | exact (hb4'.out.drew).alloc (by simpa using hb4'.out.size) _))) ?_); rintro e w5 ⟨sd, cad, rfl, hb5⟩; have hz5 := hb5.size; simp at hz5; obtain ⟨hcc5, hff5⟩ := bcell hb5)))
    all_goals
      go_wp2_with fail
      go_meet
      refine ⟨rfl, rfl, ?_⟩
      first
        | exact (((alloc_below1 w4 _).drew).trans (hb5.mono (by simp))).alloc (by omega) _
        | exact (((((((alloc_below1 w4 _).alloc (by simp) _).drew).trans (hb5.mono (by simp; omega))).setCell (by simp) _).setCell (by simp) _).setCell (by simp) _)
  case rest =>
    obtain ⟨rfl, rfl, hbx⟩ := hcut
    generalize wc = wx at *
    have k0 : wx.cell? ⟨w3.heap.size, 0, none⟩ = some (.int .u8 97) := by rw [hbx.cell (p := ⟨w3.heap.size, 0, none⟩) z4, hcc4 _ _ (by simp)]; go_simp
    have k1 : wx.cell? ⟨w3.heap.size, 1, none⟩ = some (.int .u8 109) := by rw [hbx.cell (p := ⟨w3.heap.size, 1, none⟩) z4, hcc4 _ _ (by simp)]; go_simp
    have k2 : wx.cell? ⟨w3.heap.size, 2, none⟩ = some (.slice sb 2 cab) := by rw [hbx.cell (p := ⟨w3.heap.size, 2, none⟩) z4, hcc4 _ _ (by simp)]; go_simp
    have HBX := Lib.hid (btr HB4.out hbx HB4.out.size)
    have HFX : Hid (FieldsAt 0 wx.heap.size wx (.slice sb 2 cab) exR.fields) := fields_up (fields_up HF3.out (Nat.le_refl _) (btr (alloc_below1 _ _) hb4 (by simp))) (Nat.le_refl _) hbx
    clear hcc4 hff4 hbx hb4
    go_wp2_with fail
    go_region_held3 (fun w' => w'.cell? ⟨w3.heap.size, 0, none⟩ = some (.int .u8 97) ∧ w'.cell? ⟨w3.heap.size, 1, none⟩ = some (.int .u8 109) ∧ w'.cell? ⟨w3.heap.size, 2, none⟩ = some (.slice sb 2 cab)) (go_keep)
      (first
        | (go_at_call 32; ((with_reducible refine Calls.mono (example_32 _) ?_); rintro e w6 ⟨se, cae, rfl, hb6, hf6⟩; have HF6 := Lib.hid hf6; clear hf6; have hx6 := bext hb6))
        | (go_at_call 19; ((with_reducible refine Calls.mono (same_ex (.slice sb 2 cab) (.slice se 2 cae) _ (fields_up HFX.out (Nat.le_refl _) (btr ((Below.refl _ wx).drew) hb6 (by simp))) (HF6.out.mono (Nat.zero_le _) (Nat.le_refl _))) ?_); rintro e w7 ⟨rfl, hb7⟩; have hx7 := bext hb7)))
    clear hx6 hx7
    go_wp2_with fail
    go_ret
    exact ⟨rfl, HBX.out.trans ((Below.refl _ wx).drew.trans (hb6.mono (by simpa using HBX.out.size)) |>.trans (hb7.mono (Nat.le_trans HBX.out.size (by have := hb6.size; simpa using this))))⟩
end Go.Proofs.YtfkleeigdplapaaDoor

namespace Go.Proofs.YtfkleeigdplapaaDoor
open Go.RowKit
attribute [local go_sem ↓] Go.wp_at_zero Go.wp_at_succ

theorem digits_step {n i : Nat} {V : Bs} {v : Nat} {s : Bs} (h : fixedN (n - i) v ++ s = V) (hi : i < n) : fixedN (n - (i + 1)) (v / 10) ++ (UInt8.ofNat (48 + v % 10) :: s) = V := by
  rw [← h, show n - i = (n - (i + 1)) + 1 from by omega, fixedN]
  simp
set_option maxHeartbeats 1000000 in
theorem digits_25 (n : Nat) (v : Int) (w : World) (hn : n ≤ 100) (hv : 0 ≤ v) (hv2 : v < 1000000000) :
    Calls Tryd.prog 25 #[.int .i64 v, .int .i64 n] w fun e w' => e = .returned (S (fixedN n v.toNat)) ∧ Below w.heap.size w w' := by
  obtain ⟨V, hV⟩ : ∃ V, V = fixedN n v.toNat := ⟨_, rfl⟩
  have HV := Lib.hid hV
  rw [← hV]
  clear hV
  go_enter Tryd.func25, Tryd.ntmps25
  go_wp2_with fail
  go_loopw [0, 5, 6] (fun x s i wr => ∃ (k : Nat) (u : Int) (l : Bs), k ≤ n ∧ x = .int .i64 u ∧ s = S l ∧ i = .int .i64 k ∧ 0 ≤ u ∧ u < 1000000000 ∧ l.length ≤ k ∧ Hid (fixedN (n - k) u.toNat ++ l = V) ∧ Below w.heap.size w wr) (fun _ _ i _ => n - (intOf i).toNat)
  case atStart => exact ⟨0, v, [], Nat.zero_le _, rfl, rfl, rfl, hv, hv2, Nat.le_refl _, by rw [HV.out]; simp [Hid], Below.refl _ _⟩
  case round =>
    obtain ⟨k, u, l, hk, rfl, rfl, rfl, hu, hu2, hll, HE, hb⟩ := hrel
    by_cases hlt : k < n
    · have HS := Lib.hid (digits_step HE.out hlt)
      have m0 := dig_mod u
      have hb' : Below w.heap.size w (wr.alloc (Obj.cells #[.int .u8 (48 + u % 10)] 5)) := hb.alloc hb.size _
      go_wp2_with fail
      go_roundw
      case rel =>
        refine ⟨k + 1, u / 10, UInt8.ofNat (48 + u % 10).toNat :: l, by omega, rfl, rfl, by go_num, by omega, by omega, by simp; omega, ?_, hb'⟩
        have := HS.out
        rw [div_nat u hu, dig_nat u hu]
        exact this
      case measure => simp [intOf]; omega
    · have hE : l = V := by have := HE.out; rw [show n - k = 0 from by omega] at this; simpa [fixedN] using this
      go_wp2_with fail
      go_ret
      exact ⟨ret_S hE, hb⟩
def wrappedB (tag f : Bs) : Bs := fixedN 5 (38 + f.length) ++ [110, 97, 109, 32, 97, 50, 50, 48, 48, 48, 51, 55, 32, 32, 32, 52, 53, 48, 48] ++ tag ++ fixedN 4 f.length ++ [48, 48, 48, 48, 48, 30] ++ f ++ [29]
set_option maxHeartbeats 1000000 in
theorem wrapped_23 (tag f : Bs) (w : World) (ht : tag.length ≤ 3) (hf : f.length ≤ 1000) :
    Calls Tryd.prog 23 #[S tag, S f] w fun e w' => e = .returned (S (wrappedB tag f)) ∧ Below w.heap.size w w' := by
  have H5 : Hid (∀ (v : Int) W, v = 38 + (f.length : Int) → Calls Tryd.prog 25 #[.int .i64 v, .int .i64 5] W fun e w' => e = .returned (S (fixedN 5 (38 + f.length))) ∧ Below W.heap.size W w') := by
    rintro v W rfl
    have := digits_25 5 (38 + (f.length : Int)) W (by omega) (by omega) (by omega)
    rw [show (38 + (f.length : Int)).toNat = 38 + f.length from by omega] at this
    exact this
  have H4 : Hid (∀ W, Calls Tryd.prog 25 #[.int .i64 f.length, .int .i64 4] W fun e w' => e = .returned (S (fixedN 4 f.length)) ∧ Below W.heap.size W w') := fun W => digits_25 4 f.length W (by omega) (by omega) (by omega)
  go_enter Tryd.func23, Tryd.ntmps23
  go_wp2_with (first
    | (go_at_call_of 25 (Value.int IntKind.i64 ↑(List.length f)); ((with_reducible refine Calls.mono (H4.out _) ?_); rintro e w2 ⟨rfl, hb2⟩))
    | (go_at_call 25; ((with_reducible refine Calls.mono (H5.out _ _ rfl) ?_); rintro e w1 ⟨rfl, hb1⟩)))
  go_ret
  exact ⟨ret_S (by simp [wrappedB]), btr hb1 hb2 hb1.size⟩
end Go.Proofs.YtfkleeigdplapaaDoor
