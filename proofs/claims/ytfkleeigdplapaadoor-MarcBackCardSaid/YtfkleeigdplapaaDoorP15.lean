/-
  The walk of the program's Parse.
-/
import Derived.Test.YtfkleeigdplapaaDoorP14
import Derived.Deep.DeepCutAuto
import Derived.Deep.RegionHeld3
namespace Go.Proofs.YtfkleeigdplapaaDoor
open Go.RowKit

/-- What region 8 reads. -/
structure RegS (B g : Nat) (w : World) (v : Value) (tg : Bs) (Q M : Nat) : Prop where
  c0 : w.cell? ⟨B, 2, none⟩ = some v
  c1 : w.cell? ⟨g, 0, none⟩ = some (S tg)
  c2 : w.cell? ⟨g, 1, none⟩ = some (.int .i64 Q)
  c3 : w.cell? ⟨g, 2, none⟩ = some (.int .i64 M)
theorem RegS.below {B g : Nat} {w w' : World} {v : Value} {tg : Bs} {Q M : Nat} (h : RegS B g w v tg Q M) (hb : Below w.heap.size w w') : RegS B g w' v tg Q M :=
  ⟨bext hb _ _ h.c0, bext hb _ _ h.c1, bext hb _ _ h.c2, bext hb _ _ h.c3⟩
theorem RegS.grown {B g : Nat} {w w' : World} {v : Value} {tg : Bs} {Q M : Nat} (h : RegS B g w v tg Q M) {row : Option Nat} (hg : w.grownBy w' row) (h1 : B < w.heap.size) (h2 : g < w.heap.size) (n1 : row ≠ some B) (n2 : row ≠ some g) : RegS B g w' v tg Q M :=
  ⟨by rw [hg.cell_far ⟨B, 2, none⟩ h1 (Ne.symm n1)]; exact h.c0, by rw [hg.cell_far ⟨g, 0, none⟩ h2 (Ne.symm n2)]; exact h.c1, by rw [hg.cell_far ⟨g, 1, none⟩ h2 (Ne.symm n2)]; exact h.c2, by rw [hg.cell_far ⟨g, 2, none⟩ h2 (Ne.symm n2)]; exact h.c3⟩
theorem below_box {w W w' : World} (h : Below w.heap.size w W) (hg : W.grownBy w' (some w.heap.size)) : Below w.heap.size w w' :=
  ⟨hg.os.trans h.os, hg.tape.trans h.tape, hg.output.trans h.output, Nat.le_trans h.size hg.size, fun k hk => (hg.block k (Nat.lt_of_lt_of_le hk h.size) (by intro e; injection e; omega)).trans (h.block k hk)⟩
theorem rd_new (w : World) (s : Bs) (a t : Nat) (T : TypeId) : RdAt (w.alloc (.cells #[S s, .int .i64 a, .int .i64 t] T)).drew w.heap.size s a t := by
  constructor
  · exact cell_new_drew w _ _ _ _ _ rfl rfl
  · exact cell_new_drew w _ _ _ _ _ rfl rfl
  · exact cell_new_drew w _ _ _ _ _ rfl rfl
  · show (w.alloc _).frozen? _ = false
    go_simp
/-- What holds at a panic: the frame's results, the deferred call; the memory. -/
def PanX (B : Nat) (w : World) (a0 e0 : Int) (kd lv : UInt8) (c : List PanicEntry) (a : Act) (w1 : World) : Prop :=
  (a.tmps.getD 2 undef = .pointer (some ⟨B, 0, none⟩) ∧ a.tmps.getD 3 undef = .pointer (some ⟨B + 1, 0, none⟩) ∧ a.tmps.getD 4 undef = .pointer (some ⟨B + 2, 0, none⟩) ∧
    a.defers = [{ target := .fn (.func 44) #[.pointer (some ⟨B, 0, none⟩), .pointer (some ⟨B + 1, 0, none⟩), .pointer (some ⟨B + 2, 0, none⟩)], args := #[] }]) ∧
  c = [{ v := .iface 85 (.agg #[.int .i64 a0, .int .i64 e0]), recovered := false }] ∧ (∃ va vn vc, PCells B w1 kd lv (.slice va vn vc)) ∧ Below B w w1 ∧ B = w.heap.size
theorem PanX.put {B : Nat} {w : World} {a0 e0 : Int} {kd lv : UInt8} {c : List PanicEntry} {a : Act} {w1 : World} {t : Nat} {v : Value} (ht : 4 < t) (h : PanX B w a0 e0 kd lv c (a.put (some t) v) w1) : PanX B w a0 e0 kd lv c a w1 := by
  obtain ⟨⟨h2, h3, h4, h5⟩, h6⟩ := h
  refine ⟨⟨?_, ?_, ?_, h5⟩, h6⟩
  · rw [← h2]; simp [Act.put, Array.getD_eq_getD_getElem?, Array.getElem?_setIfInBounds]; split <;> first | omega | rfl
  · rw [← h3]; simp [Act.put, Array.getD_eq_getD_getElem?, Array.getElem?_setIfInBounds]; split <;> first | omega | rfl
  · rw [← h4]; simp [Act.put, Array.getD_eq_getD_getElem?, Array.getElem?_setIfInBounds]; split <;> first | omega | rfl
def PanicOr (X : List PanicEntry → Act → World → Prop) (Q : Exit → Act → World → Prop) : Exit → Act → World → Prop
  | .panic c, a, w => X c a w
  | e, a, w => Q e a w
theorem wp_region_panicOr {P : Program} {id : Nat} {ops : Array Oper} {b : Bool} {Q : Exit → Act → World → Prop} {a : Act} {w : World} (X : List PanicEntry → Act → World → Prop) (hX : ∀ c a w, X c a w → Q (.panic c) a w) (h : (Code.region id ops b).wp P (PanicOr X Q) a w) : (Code.region id ops b).wp P Q a w :=
  Code.wp_mono (fun e a w h => by cases e <;> first | exact h | exact hX _ _ _ h) h
theorem panX_door {l : Bs} {w : World} {a0 e0 : Int} {kd lv : UInt8} (HE : parseR l = (zeroR, a0, e0)) (c : List PanicEntry) (a : Act) (w1 : World) (h : PanX w.heap.size w a0 e0 kd lv c a w1) : bodyPostD Tryd.prog Tryd.f18 (ParsePost l w) (.panic c) a w1 := by
  obtain ⟨⟨h2, h3, h4, h5⟩, rfl, ⟨va, vn, vc, hc⟩, hb, _⟩ := h
  obtain ⟨tmps, defers⟩ := a
  simp only at h2 h3 h4 h5
  subst h5
  refine leaves_cons (f := 44) (args := #[.pointer (some ⟨w.heap.size, 0, none⟩), .pointer (some ⟨w.heap.size + 1, 0, none⟩), .pointer (some ⟨w.heap.size + 2, 0, none⟩)]) (by simp) (by simp [go_sem]) ?_
  refine (catch_panic w.heap.size (w.heap.size + 1) (w.heap.size + 2) a0 e0 _ _ 0 0 va vn vc w1 hc.c0 hc.c1 hc.c2 hc.c3 hc.c4 hc.f0 hc.f1 hc.f2 hc.f3 hc.f4 (by omega) (by omega) (by omega)).mono ?_
  rintro e' u' w'' ⟨rfl, rfl, hcg⟩
  obtain ⟨d0, d1, d2, d3, d4, hbel⟩ := hcg
  simp only [Array.getD_eq_getD_getElem?] at h2 h3 h4
  simp [Leaves, settle, results, Tryd.results18, go_sem, d0, d1, d2, d3, d4, h2, h3, h4]
  exact parsePost_err HE (btr hb (hbel w.heap.size (Nat.le_refl _) (by omega) (by omega) hb.size) (Nat.le_refl _)) rfl
set_option linter.unusedSimpArgs false in
set_option maxHeartbeats 8000000 in
set_option maxRecDepth 100000 in
theorem parse_18_rest (l : Bs) (w : World) (hl : l.length ≤ 1000000) (hT : Tabs w) (he : (leaderR l).2 = 0) : Calls Tryd.prog 18 #[S l] w (ParsePost l w) := by
  obtain ⟨N, hb, hN, hNl, ha0⟩ := leader_ok l he
  have HP : Hid (parseR l = match entriesR l ((l.length : Int) - 1 - (25 + 12 * N : Nat)) N 24 0 with
      | .error i => (zeroR, (i : Int), 13)
      | .ok L => match fieldsR l (25 + 12 * N) L with
        | .error i => (zeroR, i, 14)
        | .ok fs => (⟨l.getD 6 0, l.getD 7 0, fs⟩, 0, 0)) := by
    unfold parseR
    rw [if_neg (by rw [he]; simp)]
    dsimp only
    rw [show (numB (sub3 l 12 17)).toNat = 25 + 12 * N from by omega, show (25 + 12 * N - 25) / 12 = N from by omega]
    rfl
  obtain ⟨bb, hbb⟩ : ∃ bb, bb = 25 + 12 * N := ⟨_, rfl⟩
  have hbb1 : 25 + 12 * N ≤ bb := by omega
  have hbb2 : bb ≤ 25 + 12 * N := by omega
  have H45 : Hid (∀ W, Calls Tryd.prog 45 #[S l] W fun e w' => e = .returned (.int .i64 (bb : Int)) ∧ Below W.heap.size W w') := fun W => (leader_45 l W (by omega)).mono fun e w' h => by
    obtain ⟨h1, ⟨_, h3⟩ | ⟨h2, _⟩⟩ := h
    · rw [hb] at h3; exact ⟨by rw [h3, hbb]; congr 1, h1⟩
    · exact absurd he h2.out
  have H46 : Hid (∀ W, Calls Tryd.prog 46 #[S l, .int .i64 (bb : Int)] W (DirPost l N W)) := fun W => directory_46 l N bb W (by omega) hN (by omega) (by omega)
  rw [← hbb] at HP
  have HBB := Lib.hid hbb
  have HT := Lib.hid hT
  have hw2 : 1 < w.heap.size := cell_lt (hT.2 0 (by omega)).1
  have h6 : l[6] = l.getD 6 0 := ge_getD l 6 (by omega)
  have h7 : l[7] = l.getD 7 0 := ge_getD l 7 (by omega)
  generalize l.getD 6 0 = kd at *
  generalize l.getD 7 0 = lv at *
  clear hbb hb ha0 he hT
  have hmf : ∀ (fn : Fn) (first cap : Array Value) (w : World), (Instr.makeFunc fn first cap).run Tryd.prog w = .ok (.func fn first cap) w := fun _ _ _ _ => rfl
  have b6 : (6 : Int) < l.length := by omega
  have b7 : (7 : Int) < l.length := by omega
  cases hd : entriesR l ((l.length : Int) - 1 - (25 + 12 * N : Nat)) N 24 0 with
  | error p =>
    have HE : Hid (parseR l = (zeroR, (p : Int), 13)) := by
      have hd' : entriesR l ((l.length : Int) - 1 - (bb : Nat)) N 24 0 = .error p := by rw [HBB.out]; exact hd
      rw [HP.out, hd']; rfl
    have H46k : Hid (∀ W, Calls Tryd.prog 46 #[S l, .int .i64 (bb : Int)] W fun e w' => Below W.heap.size W w' ∧ e = failV p 13) := fun W => (H46.out W).mono fun e w' h => by
      unfold DirPost at h; rw [hd] at h; exact h
    clear hd HP H46
    go_enter_defers Tryd.func18, Tryd.ntmps18
    go_wp2_with (go_at_call 45; ((with_reducible refine Calls.mono (H45.out _) ?_); rintro e w1 ⟨rfl, hb1⟩))
    have HC1 : Hid (PCells w.heap.size w1 0 0 (.slice none 0 0)) := by
      obtain ⟨hcc, hff⟩ := bcell hb1
      constructor <;> (clear H45 H46k HT; go_simp)
    have HB1 : Hid (Below w.heap.size w w1 ∧ w.heap.size + 3 ≤ w1.heap.size) := ⟨btr (below3 w _ _ _) hb1 (by simp; omega), by have := hb1.size; simp at this; omega⟩
    clear hb1
    go_cut [12] from 12 to 48 (fun _u wx => Hid (PCells w.heap.size wx kd lv (.slice none 0 0)) ∧ Hid (Below w.heap.size w wx) ∧ w.heap.size + 3 ≤ wx.heap.size)
    case first =>
      obtain ⟨c0, c1, c2, c3, c4, f0, f1, f2, f3, f4⟩ := HC1.out
      have hz1 := HB1.out.2
      go_region_held3 (fun _ => True) (trivial) (fail)
      all_goals
        go_wp2_with fail
        go_meet
        refine ⟨?_, ?_, ?_⟩
        · constructor <;> first | (go_simp; done) | (rw [World.frozen?_drew]; simp only [setCell_frozen]; assumption) | (show World.frozen? (World.setCell _ _ _) _ = _; simp only [setCell_frozen]; assumption)
        · first
            | exact ((HB1.out.1.setCell (Nat.le_refl _) _).setCell (Nat.le_refl _) _).drew
        · simpa using hz1
    case rest =>
      obtain ⟨HCX, HBX, hzx⟩ := hcut
      go_wp2_with (go_at_call 46; ((with_reducible refine Calls.mono (H46k.out _) ?_); rintro e w2 ⟨hb2, rfl⟩))
      exact panX_door (kd := kd) (lv := lv) HE.out _ _ _ ⟨⟨rfl, rfl, rfl, rfl⟩, rfl, ⟨none, 0, 0, HCX.out.of (fun k _ hk => hb2.block k (by omega))⟩, btr HBX.out hb2 HBX.out.size, rfl⟩
  | ok L =>
    obtain ⟨hLn, hLa⟩ := entries_at _ _ _ _ _ _ hd
    have HLA := Lib.hid hLa
    have HLN := Lib.hid hLn
    have HP2 : Hid (parseR l = match fieldsR l bb L with
        | .error i => (zeroR, i, 14)
        | .ok fs => (⟨kd, lv, fs⟩, 0, 0)) := by
      have hd' : entriesR l ((l.length : Int) - 1 - (bb : Nat)) N 24 0 = .ok L := by rw [HBB.out]; exact hd
      rw [HP.out, hd']; rfl
    have H46k : Hid (∀ W, Calls Tryd.prog 46 #[S l, .int .i64 (bb : Int)] W fun e w' => Below W.heap.size W w' ∧ ∃ a cap, e = .returned (.slice a L.length cap) ∧ SliceAt W.heap.size w'.heap.size w' (.slice a L.length cap) L.length (L.flatMap entCells)) := fun W => (H46.out W).mono fun e w' h => by
      unfold DirPost at h; rw [hd] at h
      obtain ⟨h1, v, h2, h3⟩ := h
      obtain ⟨a, cap, rfl, h4⟩ := h3
      exact ⟨h1, a, cap, h2, a, cap, rfl, h4⟩
    clear hLa hLn hd HP H46
    go_enter_defers Tryd.func18, Tryd.ntmps18
    go_wp2_with (go_at_call 45; ((with_reducible refine Calls.mono (H45.out _) ?_); rintro e w1 ⟨rfl, hb1⟩))
    have HC1 : Hid (PCells w.heap.size w1 0 0 (.slice none 0 0)) := by
      obtain ⟨hcc, hff⟩ := bcell hb1
      constructor <;> (clear HLA HP2 H45 H46k HT; go_simp)
    have HB1 : Hid (Below w.heap.size w w1 ∧ w.heap.size + 3 ≤ w1.heap.size) := ⟨btr (below3 w _ _ _) hb1 (by simp; omega), by have := hb1.size; simp at this; omega⟩
    clear hb1
    go_cut [12] from 12 to 48 (fun _u wx => Hid (PCells w.heap.size wx kd lv (.slice none 0 0)) ∧ Hid (Below w.heap.size w wx) ∧ w.heap.size + 3 ≤ wx.heap.size)
    case first =>
      obtain ⟨c0, c1, c2, c3, c4, f0, f1, f2, f3, f4⟩ := HC1.out
      have hz1 := HB1.out.2
      go_region_held3 (fun _ => True) (trivial) (fail)
      all_goals
        go_wp2_with fail
        go_meet
        refine ⟨?_, ?_, ?_⟩
        · constructor <;> first | (go_simp; done) | (rw [World.frozen?_drew]; simp only [setCell_frozen]; assumption) | (show World.frozen? (World.setCell _ _ _) _ = _; simp only [setCell_frozen]; assumption)
        · first
            | exact ((HB1.out.1.setCell (Nat.le_refl _) _).setCell (Nat.le_refl _) _).drew
        · simpa using hz1
    case rest =>
      obtain ⟨HCX, HBX, hzx⟩ := hcut
      go_wp2_with (go_at_call 46; ((with_reducible refine Calls.mono (H46k.out _) ?_); rintro e w2 ⟨hb2, ea, ecap, rfl, hents⟩; have HB2 := Lib.hid hb2; have HEN := Lib.hid hents; clear hb2 hents))
      have HPS0 : Hid (PSt w.heap.size w2.heap.size w w2 kd lv (.slice none 0 0) [] (.slice ea L.length ecap) L) :=
        ⟨btr HBX.out HB2.out HBX.out.size, Nat.le_refl _, Nat.le_trans hzx HB2.out.size, HCX.out.of (fun k _ hk => HB2.out.block k (by omega)), RecOwn.nil _ _, HEN.out.mono hzx (Nat.le_refl _)⟩
      have HT2 : Hid (∀ W, Below w.heap.size w W → Tabs W) := fun W hW => tabs_below HT.out hW
      have n1 : L.length ≤ N := by rw [HLN.out]; omega
      have n2 : N ≤ L.length := by rw [HLN.out]; omega
      clear HCX HBX HB2 HEN H45 H46k HB1 HC1
      go_loopw [7, 8, 22] (fun _a _b i wr => ∃ (k : Nat) (fs : List FieldD) (va : Option Addr) (vc : Nat), k ≤ N ∧ i = .int .i64 k ∧ fs.length ≤ k ∧ k ≤ fs.length ∧
          Hid (∀ e, fieldsR l bb (L.drop k) = .error e → fieldsR l bb L = .error e) ∧ Hid (∀ gs, fieldsR l bb (L.drop k) = .ok gs → fieldsR l bb L = .ok (fs ++ gs)) ∧ Hid (PSt w.heap.size w2.heap.size w wr kd lv (.slice va fs.length vc) fs (.slice ea L.length ecap) L)) (fun _ _ i _ => N - (intOf i).toNat)
      case atStart => exact ⟨0, [], none, 0, Nat.zero_le _, rfl, by simp, by simp, fun e h => h, fun gs h => by simpa using h, HPS0⟩
      case round =>
        obtain ⟨k, fs, va, vc, hk, rfl, hf1, hf2, HF1, HF2, HPS⟩ := hrel
        obtain ⟨c0, c1, c2, c3, c4, f0, f1, f2, f3, f4⟩ := HPS.out.cells
        have hbig := HPS.out.big
        have hbh := HPS.out.bh
        have hlt1 : w.heap.size < wr.heap.size := by omega
        by_cases hlt : k < N
        · obtain ⟨p, hp⟩ : ∃ p, p = 24 + 12 * k := ⟨_, rfl⟩
          have hp1 : 24 + 12 * k ≤ p := by omega
          have hp2 : p ≤ 24 + 12 * k := by omega
          obtain ⟨hLk, htg, hm1, hq1, hqm⟩ := HLA.out k hlt
          rw [← hp] at hLk htg hm1 hq1 hqm
          obtain ⟨M, hM⟩ := Int.eq_ofNat_of_zero_le (show 0 ≤ numB (sub3 l (p + 3) (p + 7)) by omega)
          obtain ⟨Q, hQ⟩ := Int.eq_ofNat_of_zero_le hq1
          rw [hM, hQ] at hLk hqm
          rw [hM] at hm1
          obtain ⟨tg, htgd⟩ : ∃ tg, sub3 l p (p + 3) = tg := ⟨_, rfl⟩
          rw [htgd] at hLk
          simp only [Int.toNat_natCast] at hLk
          have hkl : k < L.length := by omega
          have hLk2 : L[k] = (tg, M, Q) := by rw [List.getElem?_eq_getElem hkl] at hLk; injection hLk
          have HDR : Hid (L.drop k = (tg, M, Q) :: L.drop (k + 1)) := by rw [List.drop_eq_getElem_cons hkl, hLk2]; exact rfl
          obtain ⟨eb, eoff, ecap', hev, _, heb, e0, e1, e2⟩ := ents_at HPS.out.ents k hkl
          cases hev
          rw [hLk2] at e0 e1 e2
          simp only at e0 e1 e2
          have hM1 : 1 ≤ M := by omega
          have hQM : bb + Q + M < l.length := by omega
          have k1 : (0 : Int) ≤ k := by omega
          have k2 : (k : Int) < L.length := by omega
          clear hLk hLk2 htg hm1 hq1 hqm hM hQ htgd hp
          have H47 : Hid (∀ W b, RdAt W b l (bb + Q) (bb + Q + M) → Below w.heap.size w W → 2 ≤ b → Calls Tryd.prog 47 #[.pointer (some ⟨b, 0, none⟩), S tg] W (FieldPostR tg l (bb + Q) (bb + Q + M) b W)) := fun W b hr hW hb => field_R tg l (bb + Q) (bb + Q + M) b W hr (HT2.out W hW) hb (by omega) (by omega) (by omega)
          have s1 : IntKind.i64.wrap ((bb : Int) + Q + M) = bb + Q + M := IntWalk.i64_in _ (by omega)
          have HS7a : Hid (RegS w.heap.size wr.heap.size (wr.alloc (Obj.cells #[S tg, .int .i64 Q, .int .i64 M] 91)) (.slice va fs.length vc) tg Q M) :=
            ⟨bext (alloc_below1 wr _) _ _ c2, cell3 wr _ _ _ _ 0 _ rfl, cell3 wr _ _ _ _ 1 _ rfl, cell3 wr _ _ _ _ 2 _ rfl⟩
          have HS7 : Hid (RegS w.heap.size wr.heap.size (wr.alloc (Obj.cells #[S tg, .int .i64 Q, .int .i64 M] 91)).drew (.slice va fs.length vc) tg Q M) := ⟨HS7a.out.c0, HS7a.out.c1, HS7a.out.c2, HS7a.out.c3⟩
          have HRD : Hid (RdAt ((wr.alloc (Obj.cells #[S tg, .int .i64 Q, .int .i64 M] 91)).alloc (Obj.cells #[S l, .int .i64 ((bb : Int) + Q), .int .i64 ((bb : Int) + Q + M)] 94)).drew (wr.heap.size + 1) l (bb + Q) (bb + Q + M)) := by
            have := rd_new (wr.alloc (Obj.cells #[S tg, .int .i64 Q, .int .i64 M] 91)) l (bb + Q) (bb + Q + M) 94
            simpa [Hid] using this
          have HBW : Hid (Below w.heap.size w ((wr.alloc (Obj.cells #[S tg, .int .i64 Q, .int .i64 M] 91)).alloc (Obj.cells #[S l, .int .i64 ((bb : Int) + Q), .int .i64 ((bb : Int) + Q + M)] 94)).drew) := by
            have h1 := HPS.out.below
            exact ((h1.alloc (by omega) _).alloc (by simp; omega) _).drew
          cases hfr : fieldR tg (sub3 l (bb + Q) (bb + Q + M)) with
          | error j =>
            have HE : Hid (parseR l = (zeroR, (bb : Int) + Q + j, 14)) := by
              rw [HP2.out, HF1.out _ (by rw [HDR.out]; exact fields_err hfr)]; rfl
            have H47e : Hid (∀ W b, RdAt W b l (bb + Q) (bb + Q + M) → Below w.heap.size w W → 2 ≤ b → Calls Tryd.prog 47 #[.pointer (some ⟨b, 0, none⟩), S tg] W (FailAt ((bb : Int) + Q + j) b W)) := fun W b hr hW hb => (H47.out W b hr hW hb).mono fun e w' h => by
              unfold FieldPostR at h; rw [hfr] at h; simpa using h
            clear hfr HF1 HF2 H47
            go_wp2_with fail
            refine wp_region_panicOr (PanX w.heap.size w ((bb : Int) + Q + j) 14 kd lv) (fun c a w1 h => panX_door HE.out c a w1 h) ?_
            refine wp_region_T (fun w' => RegS w.heap.size wr.heap.size w' (.slice va fs.length vc) tg Q M) 16 (by kernel_rfl) ?_
            refine anyT_take (i := 0) (v := ?_) rfl (by kernel_rfl) (by kernel_rfl) (by kernel_rfl) (by kernel_rfl) (by decide) (fun _ _ _ h => h.put (by decide)) HS7.out (Or.inl ⟨by rfl, ?_⟩) ?_
            rotate_left
            · intro w' h; obtain ⟨h0, h1, h2, h3⟩ := h; go_simp; rfl
            refine anyT_take (i := 1) (v := ?_) rfl (by kernel_rfl) (by kernel_rfl) (by kernel_rfl) (by kernel_rfl) (by decide) (fun _ _ _ h => h.put (by decide)) HS7.out (Or.inl ⟨by rfl, ?_⟩) ?_
            rotate_left
            · intro w' h; obtain ⟨h0, h1, h2, h3⟩ := h; go_simp; rfl
            refine anyT_take (i := 2) (v := ?_) rfl (by kernel_rfl) (by kernel_rfl) (by kernel_rfl) (by kernel_rfl) (by decide) (fun _ _ _ h => h.put (by decide)) HS7.out (Or.inl ⟨by rfl, ?_⟩) ?_
            rotate_left
            · intro w' h; obtain ⟨h0, h1, h2, h3⟩ := h; go_simp; rfl
            refine anyT_take (i := 3) (v := ?_) rfl (by kernel_rfl) (by kernel_rfl) (by kernel_rfl) (by kernel_rfl) (by decide) (fun _ _ _ h => h.put (by decide)) HS7.out (Or.inl ⟨by rfl, ?_⟩) ?_
            rotate_left
            · intro w' h; obtain ⟨h0, h1, h2, h3⟩ := h; go_simp; rfl
            refine anyT_take (i := 4) (v := ?_) rfl (by kernel_rfl) (by kernel_rfl) (by kernel_rfl) (by kernel_rfl) (by decide) (fun _ _ _ h => h.put (by decide)) HS7.out (Or.inl ⟨by rfl, ?_⟩) ?_
            rotate_left
            · intro w' h; obtain ⟨h0, h1, h2, h3⟩ := h; go_simp; rfl
            refine anyT_take (i := 5) (v := ?_) rfl (by kernel_rfl) (by kernel_rfl) (by kernel_rfl) (by kernel_rfl) (by decide) (fun _ _ _ h => h.put (by decide)) HS7.out (Or.inl ⟨by rfl, ?_⟩) ?_
            rotate_left
            · intro w' h; obtain ⟨h0, h1, h2, h3⟩ := h; go_simp; rfl
            refine anyT_take (i := 6) (v := ?_) rfl (by kernel_rfl) (by kernel_rfl) (by kernel_rfl) (by kernel_rfl) (by decide) (fun _ _ _ h => h.put (by decide)) HS7.out (Or.inl ⟨by rfl, ?_⟩) ?_
            rotate_left
            · intro w' h; obtain ⟨h0, h1, h2, h3⟩ := h; go_simp; rfl
            refine anyT_take (i := 7) (v := ?_) rfl (by kernel_rfl) (by kernel_rfl) (by kernel_rfl) (by kernel_rfl) (by decide) (fun _ _ _ h => h.put (by decide)) HS7.out (Or.inl ⟨by rfl, ?_⟩) ?_
            rotate_left
            · intro w' h; obtain ⟨h0, h1, h2, h3⟩ := h; go_simp; rfl
            refine anyT_take (i := 8) (v := ?_) rfl (by kernel_rfl) (by kernel_rfl) (by kernel_rfl) (by kernel_rfl) (by decide) (fun _ _ _ h => h.put (by decide)) HS7.out (Or.inl ⟨by rfl, ?_⟩) ?_
            rotate_left
            · intro w' h; obtain ⟨h0, h1, h2, h3⟩ := h; go_simp; rfl
            refine anyT_take (i := 10) (v := ?_) rfl (by kernel_rfl) (by kernel_rfl) (by kernel_rfl) (by kernel_rfl) (by decide) (fun _ _ _ h => h.put (by decide)) HS7.out (Or.inl ⟨by rfl, ?_⟩) ?_
            rotate_left
            · intro w' h; obtain ⟨h0, h1, h2, h3⟩ := h; go_simp; rfl
            refine anyT_take (i := 11) (v := ?_) rfl (by kernel_rfl) (by kernel_rfl) (by kernel_rfl) (by kernel_rfl) (by decide) (fun _ _ _ h => h.put (by decide)) HS7.out (Or.inl ⟨by rfl, ?_⟩) ?_
            rotate_left
            · intro w' h; obtain ⟨h0, h1, h2, h3⟩ := h; go_simp; rfl
            refine anyT_do (i := 9) rfl (by kernel_rfl) rfl (fun K hK => ?_)
            go_simp
            refine hK _ _ (fun _ => HS7a.out.below ((alloc_below1 _ _).drew)) ?_
            clear hK K
            refine anyT_do (i := 12) rfl (by kernel_rfl) rfl (fun K hK => ?_)
            go_simp
            (go_at_call 47; ((with_reducible refine Calls.mono (H47e.out _ _ HRD.out HBW.out (by omega)) ?_); rintro e w6 ⟨rfl, hg6⟩))
            have hz7 : (wr.alloc (Obj.cells #[S tg, .int .i64 Q, .int .i64 M] 91)).heap.size = wr.heap.size + 1 := by simp
            rw [← hz7] at hg6
            have HB6 : Below wr.heap.size wr w6 := btr (alloc_below1 wr _) (below_box ((alloc_below1 _ _).drew) hg6) (by simp)
            exact ⟨⟨rfl, rfl, rfl, rfl⟩, rfl, ⟨va, fs.length, vc, HPS.out.cells.of (fun k _ hk => HB6.block k (by omega))⟩, btr HPS.out.below HB6 (by omega), rfl⟩
          | ok f =>
            have HF1' : Hid (∀ e, fieldsR l bb (L.drop (k + 1)) = .error e → fieldsR l bb L = .error e) := fun e h => by
              refine HF1.out e ?_
              rw [HDR.out, fields_ok hfr, h]
            have HF2' : Hid (∀ gs, fieldsR l bb (L.drop (k + 1)) = .ok gs → fieldsR l bb L = .ok ((fs ++ [f]) ++ gs)) := fun gs h => by
              rw [List.append_assoc]
              refine HF2.out _ ?_
              rw [HDR.out, fields_ok hfr, h]; rfl
            have H47e : Hid (∀ W b, RdAt W b l (bb + Q) (bb + Q + M) → Below w.heap.size w W → 2 ≤ b → Calls Tryd.prog 47 #[.pointer (some ⟨b, 0, none⟩), S tg] W (fun e w' => W.grownBy w' (some b) ∧ ∃ da dn dc, e = .returned (.agg #[S f.tag, S f.ind, S f.data, .slice da dn dc]) ∧ SubsAt W.heap.size w'.heap.size w' (.slice da dn dc) f.subs)) := fun W b hr hW hb => (H47.out W b hr hW hb).mono fun e w' h => by
              unfold FieldPostR at h; rw [hfr] at h
              obtain ⟨h1, d, h2, h3⟩ := h
              obtain ⟨a, cap, rfl, h4⟩ := h3
              exact ⟨h1, a, _, cap, h2, a, cap, rfl, h4⟩
            clear hfr HF1 HF2 H47
            obtain ⟨i0, hi, hz0, hz1, hz2⟩ := info_parts i57
            have HI := Lib.hid hi
            have HI0 := Lib.hid hz0
            have HI1 := Lib.hid hz1
            have HI2 := Lib.hid hz2
            clear hi hz0 hz1 hz2
            obtain ⟨ftag, hft⟩ : ∃ x, f.tag = x := ⟨_, rfl⟩
            obtain ⟨find, hfi⟩ : ∃ x, f.ind = x := ⟨_, rfl⟩
            obtain ⟨fdata, hfd⟩ : ∃ x, f.data = x := ⟨_, rfl⟩
            rw [hft, hfi, hfd] at H47e
            have HFC : Hid (∀ d, fieldCells (f, d) = [S ftag, S find, S fdata, d]) := fun d => by rw [← hft, ← hfi, ← hfd]; rfl
            clear hft hfi hfd
            go_wp2_with fail
            refine wp_region_panicOr (fun _ _ _ => False) (fun _ _ _ h => h.elim) ?_
            refine wp_region_T (fun w' => RegS w.heap.size wr.heap.size w' (.slice va fs.length vc) tg Q M) 16 (by kernel_rfl) ?_
            refine anyT_take (i := 0) (v := ?_) rfl (by kernel_rfl) (by kernel_rfl) (by kernel_rfl) (by kernel_rfl) (by decide) (fun _ _ _ h => h) HS7.out (Or.inl ⟨by rfl, ?_⟩) ?_
            rotate_left
            · intro w' h; obtain ⟨h0, h1, h2, h3⟩ := h; go_simp; rfl
            refine anyT_take (i := 1) (v := ?_) rfl (by kernel_rfl) (by kernel_rfl) (by kernel_rfl) (by kernel_rfl) (by decide) (fun _ _ _ h => h) HS7.out (Or.inl ⟨by rfl, ?_⟩) ?_
            rotate_left
            · intro w' h; obtain ⟨h0, h1, h2, h3⟩ := h; go_simp; rfl
            refine anyT_take (i := 2) (v := ?_) rfl (by kernel_rfl) (by kernel_rfl) (by kernel_rfl) (by kernel_rfl) (by decide) (fun _ _ _ h => h) HS7.out (Or.inl ⟨by rfl, ?_⟩) ?_
            rotate_left
            · intro w' h; obtain ⟨h0, h1, h2, h3⟩ := h; go_simp; rfl
            refine anyT_take (i := 3) (v := ?_) rfl (by kernel_rfl) (by kernel_rfl) (by kernel_rfl) (by kernel_rfl) (by decide) (fun _ _ _ h => h) HS7.out (Or.inl ⟨by rfl, ?_⟩) ?_
            rotate_left
            · intro w' h; obtain ⟨h0, h1, h2, h3⟩ := h; go_simp; rfl
            refine anyT_take (i := 4) (v := ?_) rfl (by kernel_rfl) (by kernel_rfl) (by kernel_rfl) (by kernel_rfl) (by decide) (fun _ _ _ h => h) HS7.out (Or.inl ⟨by rfl, ?_⟩) ?_
            rotate_left
            · intro w' h; obtain ⟨h0, h1, h2, h3⟩ := h; go_simp; rfl
            refine anyT_take (i := 5) (v := ?_) rfl (by kernel_rfl) (by kernel_rfl) (by kernel_rfl) (by kernel_rfl) (by decide) (fun _ _ _ h => h) HS7.out (Or.inl ⟨by rfl, ?_⟩) ?_
            rotate_left
            · intro w' h; obtain ⟨h0, h1, h2, h3⟩ := h; go_simp; rfl
            refine anyT_take (i := 6) (v := ?_) rfl (by kernel_rfl) (by kernel_rfl) (by kernel_rfl) (by kernel_rfl) (by decide) (fun _ _ _ h => h) HS7.out (Or.inl ⟨by rfl, ?_⟩) ?_
            rotate_left
            · intro w' h; obtain ⟨h0, h1, h2, h3⟩ := h; go_simp; rfl
            refine anyT_take (i := 7) (v := ?_) rfl (by kernel_rfl) (by kernel_rfl) (by kernel_rfl) (by kernel_rfl) (by decide) (fun _ _ _ h => h) HS7.out (Or.inl ⟨by rfl, ?_⟩) ?_
            rotate_left
            · intro w' h; obtain ⟨h0, h1, h2, h3⟩ := h; go_simp; rfl
            refine anyT_take (i := 8) (v := ?_) rfl (by kernel_rfl) (by kernel_rfl) (by kernel_rfl) (by kernel_rfl) (by decide) (fun _ _ _ h => h) HS7.out (Or.inl ⟨by rfl, ?_⟩) ?_
            rotate_left
            · intro w' h; obtain ⟨h0, h1, h2, h3⟩ := h; go_simp; rfl
            refine anyT_take (i := 10) (v := ?_) rfl (by kernel_rfl) (by kernel_rfl) (by kernel_rfl) (by kernel_rfl) (by decide) (fun _ _ _ h => h) HS7.out (Or.inl ⟨by rfl, ?_⟩) ?_
            rotate_left
            · intro w' h; obtain ⟨h0, h1, h2, h3⟩ := h; go_simp; rfl
            refine anyT_take (i := 11) (v := ?_) rfl (by kernel_rfl) (by kernel_rfl) (by kernel_rfl) (by kernel_rfl) (by decide) (fun _ _ _ h => h) HS7.out (Or.inl ⟨by rfl, ?_⟩) ?_
            rotate_left
            · intro w' h; obtain ⟨h0, h1, h2, h3⟩ := h; go_simp; rfl
            refine anyT_do (i := 9) rfl (by kernel_rfl) rfl (fun K hK => ?_)
            go_simp
            refine hK _ _ (fun _ => HS7a.out.below ((alloc_below1 _ _).drew)) ?_
            clear hK K
            refine anyT_do (i := 12) rfl (by kernel_rfl) rfl (fun K hK => ?_)
            go_simp
            (go_at_call 47; ((with_reducible refine Calls.mono (H47e.out _ _ HRD.out HBW.out (by omega)) ?_); rintro e w6 ⟨hg6, da, dn, dc, rfl, hsd⟩))
            have hz7 : (wr.alloc (Obj.cells #[S tg, .int .i64 Q, .int .i64 M] 91)).heap.size = wr.heap.size + 1 := by simp
            rw [← hz7] at hg6
            have HB76 := Lib.hid (below_box ((alloc_below1 _ _).drew) hg6)
            have HB6 : Hid (Below wr.heap.size wr w6) := btr (alloc_below1 wr _) HB76.out (by simp)
            have HS6 := Lib.hid (HS7a.out.below HB76.out)
            have HPS6 := Lib.hid (HPS.out.keep HB6.out)
            have HSD := Lib.hid hsd
            have hz6 := HB6.out.size
            obtain ⟨ps, hp1', hp2', hp3'⟩ := HPS6.out.own.ex
            have HP1 := Lib.hid hp1'
            have HPP2 := Lib.hid hp2'
            have HP3 := Lib.hid hp3'
            have HLT : Hid (∀ k, (Value.slice va fs.length vc).ownBlock = some k → w2.heap.size ≤ k ∧ k < wr.heap.size) := fun k hk => by
              obtain ⟨ps', _, _, h3⟩ := HPS.out.own.ex
              exact h3.lt k hk
            clear hz7 hg6 hsd hp1' hp2' hp3'
            refine hK _ _ (fun _ => HS6.out) ?_
            clear hK K
            refine anyT_do (i := 13) rfl (by kernel_rfl) rfl (fun K hK => ?_)
            go_simp
            refine hK _ _ (fun _ => HS6.out.below (alloc_below1 _ _)) ?_
            clear hK K
            refine anyT_do (i := 14) rfl (by kernel_rfl) rfl (fun K hK => ?_)
            refine wp_append_lies _ _ _ 25 rfl w2.heap.size 57 i0 (.agg #[.string ⟨#[]⟩, .string ⟨#[]⟩, .string ⟨#[]⟩, .slice none 0 0]) 4 72 Tryd.underlying25 HI.out HI0.out HI1.out HI2.out rfl (by omega) (.slice va fs.length vc) fs.length _ (by rfl) (HP3.out.alloc _) ⟨w6.heap.size, 0, none⟩ 1 1 [S ftag, S find, S fdata, .slice da dn dc] (by rfl) rfl (cell_four_new _ _ _ _ _ _) (by simp [Value.oneCell']) (by omega) (by unfold maxLen; omega) (by omega) (by simp; omega) _ rfl ?_
            intro g cap w8 hown8 hgw hat hlt8
            have HO8 := Lib.hid hown8
            have HG8 := Lib.hid hgw
            have HAT : Hid ((Value.slice (some ⟨g, 0, none⟩) (fs.length + 1) cap).ownBlock = (Value.slice va fs.length vc).ownBlock ∨ (Value.slice (some ⟨g, 0, none⟩) (fs.length + 1) cap).ownBlock = some ((w6.alloc (Obj.cells #[S ftag, S find, S fdata, .slice da dn dc] 57)).heap.size)) := by
              rcases hat with h | h
              · exact .inl h.symm
              · exact .inr (by rw [← h]; rfl)
            have hne1 : (Value.slice va fs.length vc).ownBlock ≠ some w.heap.size := fun h => by have := (HLT.out _ h).1; omega
            have hne2 : (Value.slice va fs.length vc).ownBlock ≠ some wr.heap.size := fun h => by have := (HLT.out _ h).2; omega
            have hlt6 : wr.heap.size < w6.heap.size := cell_lt HS6.out.c1
            have HS8 : Hid (RegS w.heap.size wr.heap.size w8 (.slice va fs.length vc) tg Q M) := (HS6.out.below (alloc_below1 _ _)).grown hgw (by simp; omega) (by simp; omega) hne1 hne2
            have e3 := HS8.out.c0
            have ef3 : w8.frozen? ⟨w.heap.size, 2, none⟩ = false := by
              have h1 : w8.heap[w.heap.size]? = w6.heap[w.heap.size]? := (hgw.block w.heap.size (by simp; omega) (fun e => hne1 e.symm)).trans (Below.heap_alloc w6 _ _ (by omega))
              rw [World.frozen?_of_block (w := w6) h1]; exact HPS6.out.cells.f2
            clear hown8 hgw hat hne1 hne2
            refine hK _ _ (fun _ => HS8.out) ?_
            clear hK K
            refine anyT_do (i := 15) rfl (by kernel_rfl) rfl (fun K hK => ?_)
            go_simp
            refine hK _ _ (fun _ => HS8.out) ?_
            clear hK K
            refine anyT_do (i := 16) rfl (by kernel_rfl) rfl (fun K hK => ?_)
            go_simp
            refine hK _ _ (fun h => absurd rfl h) ?_
            clear hK K
            refine anyT_done (by kernel_rfl) ?_ _
            simp only [PanicOr]
            go_wp2_with fail
            go_roundw
            case rel => exact ⟨k + 1, fs ++ [f], some ⟨g, 0, none⟩, cap, by omega, by go_num, by simp; omega, by simp; omega, HF1', HF2', by
              have := HPS6.out.app _ f (.slice da dn dc) ps HP1.out HPP2.out HP3.out (SubsOff.of HSD.out (by simp; omega) (fun k hk => by have := (HLT.out k hk).2; simp; omega)) (by rw [HFC.out]; exact HO8.out) HG8.out HAT.out
              simpa [Hid] using this⟩
            case measure => simp [intOf]; omega
        · have HL0 := HF2.out [] (by rw [List.drop_of_length_le (by omega)]; rfl)
          have HE : Hid (parseR l = (⟨kd, lv, fs⟩, 0, 0)) := by rw [HP2.out, HL0]; simp [Hid]
          have k2 : ¬ (k : Int) < L.length := by omega
          clear HF1 HF2 HL0
          go_wp2_with fail
          refine leaves_cons (f := 44) (args := #[.pointer (some ⟨w.heap.size, 0, none⟩), .pointer (some ⟨w.heap.size + 1, 0, none⟩), .pointer (some ⟨w.heap.size + 2, 0, none⟩)]) (by simp) (by simp [go_sem]) ?_
          refine (catch_idle _ _ _ _).mono ?_
          rintro e u' w'' ⟨rfl, rfl, rfl⟩
          simp [Leaves, settle, results, Tryd.results18, go_sem, c0, c1, c2, c3, c4]
          refine parsePost_ok HE.out (((((HPS.out.below.setCell (Nat.le_refl _) _).setCell (Nat.le_refl _) _).setCell (Nat.le_refl _) _).setCell (by simp) _).setCell (by simp; omega) _) _ rfl ⟨_, rfl, ?_⟩
          exact (HPS.out.own.keep (fun j hj _ => by rw [Below.heap_setCell _ _ _ _ (by simp; omega), Below.heap_setCell _ _ _ _ (by simp; omega), Below.heap_setCell _ _ _ _ (by simp; omega), Below.heap_setCell _ _ _ _ (by simp; omega), Below.heap_setCell _ _ _ _ (by simp; omega)]) (by simp)).fields (by omega)
theorem parse_18 (l : Bs) (w : World) (hl : l.length ≤ 1000000) (hT : Tabs w) : Calls Tryd.prog 18 #[S l] w (ParsePost l w) := by
  by_cases he : (leaderR l).2 = 0
  · exact parse_18_rest l w hl hT he
  · exact parse_18_lead l w hl he
end Go.Proofs.YtfkleeigdplapaaDoor
