/-
  The walk of the reference's Parse.
-/
import Derived.Test.YtfkleeigdplapaaDoorW10
import Derived.Test.YtfkleeigdplapaaDoorW11
import Derived.Test.YtfkleeigdplapaaDoorBase
import Derived.Deep.RegionHeld3
import Derived.Deep.DeepCutAuto
import Derived.Maps.AppendAt
namespace Go.Proofs.YtfkleeigdplapaaDoor
open Go.RowKit

def zeroR : RecD := ⟨0, 0, []⟩
def ParsePost (l : Bs) (w : World) (e : Ending) (w' : World) : Prop :=
  Below w.heap.size w w' ∧ ∃ v, e = .returned (.tuple #[v, .int .i64 (parseR l).2.1, .int .i64 (parseR l).2.2]) ∧ RecAt w.heap.size w'.heap.size w' v (parseR l).1
theorem parsePost_err {l : Bs} {w w' : World} {e : Ending} {a b : Int} (h : parseR l = (zeroR, a, b)) (hb : Below w.heap.size w w') (he : e = .returned (.tuple #[.agg #[.int .u8 0, .int .u8 0, .slice none 0 0], .int .i64 a, .int .i64 b])) : ParsePost l w e w' := by
  refine ⟨hb, .agg #[.int .u8 0, .int .u8 0, .slice none 0 0], ?_, ?_⟩
  · rw [h]; exact he
  · rw [h]; exact ⟨.slice none 0 0, rfl, [], rfl, by simp, none, 0, rfl, fun h => absurd rfl h⟩
theorem parsePost_ok {l : Bs} {w w' : World} {e : Ending} {r : RecD} (h : parseR l = (r, 0, 0)) (hb : Below w.heap.size w w') (v : Value) (he : e = .returned (.tuple #[v, .int .i64 0, .int .i64 0])) (hr : RecAt w.heap.size w'.heap.size w' v r) : ParsePost l w e w' := by
  refine ⟨hb, v, ?_, ?_⟩ <;> rw [h] <;> assumption
theorem results_cell_tmp2 {fn : Func} {p u u' : Tmp} {ty : TypeId} (h : fn.results = #[.cell p ty, .tmp u, .tmp u']) (tmps : Array Value) (P : Program) (w : World) :
    (results fn tmps).run P w =
      ((asAddr (tmps.getD p undef)).run P w).andThen fun a w₁ => ((loadVar ty a).run P w₁).andThen fun v w₂ => .ok (.tuple #[v, tmps.getD u undef, tmps.getD u' undef]) w₂ := by
  simp only [results, h]
  simp [Sem.run_bind, Result.andThen]

theorem cell_four_new (w : World) (x y z u : Value) (t : TypeId) : ∀ j v, [x, y, z, u][j]? = some v → (w.alloc (.cells #[x, y, z, u] t)).cell? ((⟨w.heap.size, 0, none⟩ : Addr).add j) = some v := by
  intro j v hj
  match j, hj with
  | 0, hj => simp at hj; subst hj; simp [Addr.add]
  | 1, hj => simp at hj; subst hj; simp [Addr.add]
  | 2, hj => simp at hj; subst hj; simp [Addr.add]
  | 3, hj => simp at hj; subst hj; simp [Addr.add]
theorem i57 : (Tryd.prog.info? 57).map (fun i => (i.zero, i.size, i.bytes)) = some (some (.agg #[.string ⟨#[]⟩, .string ⟨#[]⟩, .string ⟨#[]⟩, .slice none 0 0]), 4, 72) := by kernel_rfl
theorem subs_setCell {lo hi : Nat} {w : World} {v : Value} {ss : List SubD} (h : SubsAt lo hi w v ss) {b : Nat} (hb : b < lo) (o : Nat) (u : Value) : SubsAt lo hi (w.setCell ⟨b, o, none⟩ u) v ss :=
  h.kept fun k h1 _ => Below.heap_setCell _ _ _ _ (by simp; omega)
theorem subs_alloc {lo hi : Nat} {w : World} {v : Value} {ss : List SubD} (h : SubsAt lo hi w v ss) (hh : hi ≤ w.heap.size) (o : Obj) : SubsAt lo hi (w.alloc o) v ss :=
  h.kept fun k _ h2 => Below.heap_alloc _ _ _ (by omega)
theorem RecSt.app2 {B : Nat} {w0 wx w2 : World} {kd lv : UInt8} {v v' : Value} {fs : List FieldD} (h : RecSt B w0 wx kd lv v fs) (o : Obj) (f : FieldD) (d : Value) (ps : List (FieldD × Value)) (h1 : ps.map (·.1) = fs) (h2 : ∀ p ∈ ps, SubsOff (B + 2) v.ownBlock wx p.2 p.1.subs)
    (h3 : wx.ownsRow (B + 2) 57 4 v fs.length (ps.flatMap fieldCells)) (hd : SubsOff (B + 2) v.ownBlock wx d f.subs)
    (hown : w2.ownsRow (B + 2) 57 4 v' (fs.length + 1) (ps.flatMap fieldCells ++ fieldCells (f, d))) (hg : (wx.alloc o).grownBy w2 v.ownBlock) (hv : v'.ownBlock = v.ownBlock ∨ v'.ownBlock = some (wx.alloc o).heap.size) :
    RecSt B w0 (w2.setCell ⟨B + 1, 2, none⟩ v') kd lv v' (fs ++ [f]) := by
  have st : ∀ {x : Value} {ss : List SubD}, SubsOff (B + 2) v.ownBlock wx x ss → SubsOff (B + 2) v.ownBlock (wx.alloc o) x ss := fun h =>
    h.step (fun k _ hk _ => Below.heap_alloc wx o k hk) (by simp) (.inl rfl)
  exact (h.keep (alloc_below1 wx o)).app f d ps h1 (fun p hp => st (h2 p hp)) (h3.alloc o) (st hd) hown hg hv
theorem RecSt.far {B : Nat} {w0 wx : World} {kd lv : UInt8} {v : Value} {fs : List FieldD} (h : RecSt B w0 wx kd lv v fs) : ∀ (o : Obj) (w4 : World), (wx.alloc o).grownBy w4 v.ownBlock → w4.cell? ⟨B + 1, 2, none⟩ = some v ∧ w4.frozen? ⟨B + 1, 2, none⟩ = false := by
  intro o w4 hg
  obtain ⟨ps, _, _, h3⟩ := h.own.ex
  have hb := h.big
  have hk : w4.heap[B + 1]? = wx.heap[B + 1]? := by
    rw [hg.block (B + 1) (by simp; omega) (by intro e; have := (h3.lt _ e.symm).1; omega)]
    exact Below.heap_alloc wx o (B + 1) (by omega)
  exact ⟨(World.cell?_of_block (w := wx) hk).trans h.c2, (World.frozen?_of_block (w := wx) hk).trans h.x2⟩
theorem RecSt.cells {B : Nat} {w0 wx : World} {kd lv : UInt8} {v : Value} {fs : List FieldD} (h : RecSt B w0 wx kd lv v fs) : wx.cell? ⟨B, 0, none⟩ = some (.int .u8 0) ∧ wx.cell? ⟨B, 1, none⟩ = some (.int .u8 0) ∧ wx.cell? ⟨B, 2, none⟩ = some (.slice none 0 0) ∧
    wx.frozen? ⟨B, 0, none⟩ = false ∧ wx.frozen? ⟨B, 1, none⟩ = false ∧ wx.frozen? ⟨B, 2, none⟩ = false ∧ wx.cell? ⟨B + 1, 2, none⟩ = some v ∧ wx.frozen? ⟨B + 1, 2, none⟩ = false :=
  ⟨h.z0, h.z1, h.z2, h.y0, h.y1, h.y2, h.c2, h.x2⟩

set_option linter.unusedSimpArgs false in
set_option maxHeartbeats 8000000 in
set_option maxRecDepth 100000 in
theorem parse_51 (l : Bs) (w : World) (hl : l.length ≤ 1000000) : Calls Tryd.prog 51 #[S l] w (ParsePost l w) := by
  obtain ⟨at0, hat⟩ : ∃ a, (leaderR l).1 = a := ⟨_, rfl⟩
  obtain ⟨e0, he0⟩ : ∃ a, (leaderR l).2 = a := ⟨_, rfl⟩
  have H70 : Hid (∀ W, Calls Tryd.prog 70 #[S l] W fun e w' => e = .returned (.tuple #[.int .i64 at0, .int .i64 e0]) ∧ W = w') := by
    intro W; rw [← hat, ← he0]; exact leader_70 l W (by omega)
  by_cases hz : e0 = 0
  · obtain ⟨N, hb, hN, hNl, ha0⟩ := leader_ok l (by rw [he0]; exact hz)
    have hat2 : at0 = 0 := by rw [← hat]; exact ha0
    subst hat2 hz
    have HP : Hid (parseR l = match entriesR l ((l.length : Int) - 1 - (25 + 12 * N : Nat)) N 24 0 with
        | .error i => (zeroR, (i : Int), 13)
        | .ok L => match fieldsR l (25 + 12 * N) L with
          | .error i => (zeroR, i, 14)
          | .ok fs => (⟨l.getD 6 0, l.getD 7 0, fs⟩, 0, 0)) := by
      unfold parseR
      rw [if_neg (by rw [he0]; simp)]
      dsimp only
      rw [show (numB (sub3 l 12 17)).toNat = 25 + 12 * N from by omega, show (25 + 12 * N - 25) / 12 = N from by omega]
      rfl
    obtain ⟨bb, hbb⟩ : ∃ bb, bb = 25 + 12 * N := ⟨_, rfl⟩
    have hbb1 : 25 + 12 * N ≤ bb := by omega
    have hbb2 : bb ≤ 25 + 12 * N := by omega
    have HBB := Lib.hid hbb
    have HB : Hid (∀ W, Calls Tryd.prog 71 #[S (List.drop 12 (List.take 17 l))] W fun e w' => e = .returned (.int .i64 (bb : Int)) ∧ W = w') := by
      intro W; rw [show (bb : Int) = numB (sub3 l 12 17) from by omega]; exact number_71 _ _ (by simp; omega)
    rw [← hbb] at HP
    clear hbb
    clear hat he0 ha0 hb
    go_enter Tryd.func51, Tryd.ntmps51
    go_wp2_with (first
      | (go_at_call 70; ((with_reducible refine Calls.mono (H70.out _) ?_); rintro e w' ⟨rfl, rfl⟩))
      | (go_at_call 71; ((with_reducible refine Calls.mono (HB.out _) ?_); rintro e w' ⟨rfl, rfl⟩)))
    obtain ⟨sz, hsz⟩ : ∃ sz, (l.length : Int) - 1 - (bb : Nat) = sz := ⟨_, rfl⟩
    rw [hsz] at HP
    have hsz1 : sz ≤ (l.length : Int) - 1 - bb := by omega
    have hsz2 : (l.length : Int) - 1 - bb ≤ sz := by omega
    clear hsz
    go_loop [9, 10, 11, 12, 13] (fun su i a b c => ∃ (k p : Nat) (sum : Int), k ≤ N ∧ 24 + 12 * k ≤ p ∧ p ≤ 24 + 12 * k ∧ i = .int .i64 (p : Int) ∧ su = .int .i64 sum ∧ 0 ≤ sum ∧ sum ≤ k * 100000 ∧
        Hid (∀ i, entriesR l sz (N - k) p sum = .error i → entriesR l sz N 24 0 = .error i) ∧ Hid (∀ L, entriesR l sz (N - k) p sum = .ok L → ∃ L', entriesR l sz N 24 0 = .ok L')) (fun _ i _ _ _ => (24 + 12 * N + 1) - (intOf i).toNat)
    case atStart => exact ⟨0, 24, 0, Nat.zero_le _, by omega, by omega, rfl, rfl, by omega, by omega, fun i h => h, fun L h => ⟨L, h⟩⟩
    case round =>
      obtain ⟨k, p, sum, hk, hp1, hp2, rfl, rfl, hs1, hs2, HE1, HE2⟩ := hrel
      by_cases hlt : k < N
      · obtain ⟨m, hm⟩ : ∃ m, numB (sub3 l (p + 3) (p + 7)) = m := ⟨_, rfl⟩
        obtain ⟨q, hq⟩ : ∃ q, numB (sub3 l (p + 7) (p + 12)) = q := ⟨_, rfl⟩
        obtain ⟨t, ht⟩ : ∃ t, isTagB (sub3 l p (p + 3)) = t := ⟨_, rfl⟩
        have hstep := entries_step l sz (N - k - 1) p sum
        rw [show N - k - 1 + 1 = N - k from by omega, hm, hq, ht] at hstep
        have HST := Lib.hid hstep
        have HM : Hid (∀ W, Calls Tryd.prog 71 #[S (List.drop (p + 3) (List.take (p + 7) l))] W fun e w' => e = .returned (.int .i64 m) ∧ W = w') := by
          intro W; rw [← hm]; exact number_71 _ _ (by simp; omega)
        have HQ : Hid (∀ W, Calls Tryd.prog 71 #[S (List.drop (p + 7) (List.take (p + 12) l))] W fun e w' => e = .returned (.int .i64 q) ∧ W = w') := by
          intro W; rw [← hq]; exact number_71 _ _ (by simp; omega)
        have HT : Hid (∀ W, Calls Tryd.prog 72 #[S (List.drop p (List.take (p + 3) l))] W fun e w' => e = .returned (.bool t) ∧ W = w') := by
          intro W; rw [← ht]; exact isTag_72 _ _
        have hmb : -1 ≤ m ∧ m < 100000 := by rw [← hm]; exact numB_bd5 _ 5 (by omega) (by simp [sub3]; omega)
        have hqb : -1 ≤ q ∧ q < 100000 := by rw [← hq]; exact numB_bd5 _ 5 (by omega) (by simp [sub3]; omega)
        clear hm hq ht hstep
        obtain ⟨hm1, hm2⟩ := hmb
        obtain ⟨hq1, hq2⟩ := hqb
        cases t
        · have HE : Hid (parseR l = (zeroR, (p : Int), 13)) := by
            rw [HP.out, HE1.out p (by rw [HST.out]; rfl)]; rfl
          go_wp2_with (first
            | (go_at_call 72; ((with_reducible refine Calls.mono (HT.out _) ?_); rintro e w' ⟨rfl, rfl⟩))
            | (go_at_call 71; ((with_reducible refine Calls.mono (HM.out _) ?_); rintro e w' ⟨rfl, rfl⟩))
            | (go_at_call 71; ((with_reducible refine Calls.mono (HQ.out _) ?_); rintro e w' ⟨rfl, rfl⟩)))
          refine bodyPost_ret (v := .tuple #[.agg #[.int .u8 0, .int .u8 0, .slice none 0 0], .int .i64 p, .int .i64 13]) (by rw [results_cell_tmp2 rfl]; go_simp) rfl ?_
          exact parsePost_err HE.out (alloc_below1 w _) rfl
        · by_cases hg : 1 ≤ m ∧ 0 ≤ q ∧ q + m ≤ sz ∧ sum + m ≤ sz
          · obtain ⟨g1, g2, g3, g4⟩ := hg
            have HS2 : Hid (entriesR l sz (N - k) p sum = match entriesR l sz (N - k - 1) (p + 12) (sum + m) with
                | .ok L => .ok ((sub3 l p (p + 3), m.toNat, q.toNat) :: L)
                | .error e => .error e) := by
              rw [HST.out, if_neg (by simp; omega)]; rfl
            have HE1' : Hid (∀ i, entriesR l sz (N - (k + 1)) (p + 12) (sum + m) = .error i → entriesR l sz N 24 0 = .error i) := fun i h => by
              apply HE1.out; rw [HS2.out, show N - k - 1 = N - (k + 1) from by omega, h]
            have HE2' : Hid (∀ L, entriesR l sz (N - (k + 1)) (p + 12) (sum + m) = .ok L → ∃ L', entriesR l sz N 24 0 = .ok L') := fun L h => by
              apply HE2.out; rw [HS2.out, show N - k - 1 = N - (k + 1) from by omega, h]
            go_wp2_with (first
              | (go_at_call 72; ((with_reducible refine Calls.mono (HT.out _) ?_); rintro e w' ⟨rfl, rfl⟩))
              | (go_at_call 71; ((with_reducible refine Calls.mono (HM.out _) ?_); rintro e w' ⟨rfl, rfl⟩))
              | (go_at_call 71; ((with_reducible refine Calls.mono (HQ.out _) ?_); rintro e w' ⟨rfl, rfl⟩)))
            go_round
            case rel => exact ⟨k + 1, p + 12, sum + m, by omega, by omega, by omega, by go_num, by go_num, by omega, by omega, HE1', HE2'⟩
            case measure => simp [intOf]; omega
          · have hor : m < 1 ∨ q < 0 ∨ sz < q + m ∨ sz < sum + m := by omega
            have HE : Hid (parseR l = (zeroR, (p : Int), 13)) := by
              rw [HP.out, HE1.out p (by rw [HST.out, if_pos (by simp; omega)])]; rfl
            clear hg
            go_wp2_with (first
              | (go_at_call 72; ((with_reducible refine Calls.mono (HT.out _) ?_); rintro e w' ⟨rfl, rfl⟩))
              | (go_at_call 71; ((with_reducible refine Calls.mono (HM.out _) ?_); rintro e w' ⟨rfl, rfl⟩))
              | (go_at_call 71; ((with_reducible refine Calls.mono (HQ.out _) ?_); rintro e w' ⟨rfl, rfl⟩)))
            all_goals first
              | (refine bodyPost_ret (v := .tuple #[.agg #[.int .u8 0, .int .u8 0, .slice none 0 0], .int .i64 p, .int .i64 13]) (by rw [results_cell_tmp2 rfl]; go_simp) rfl ?_; exact parsePost_err HE.out (alloc_below1 w _) rfl)
              | (exfalso; omega)
      · obtain ⟨L, hL⟩ := HE2.out [] (by rw [show N - k = 0 from by omega]; rfl)
        obtain ⟨hLn, hLa⟩ := entries_at _ _ _ _ _ _ hL
        have HLA := Lib.hid hLa
        have HLN := Lib.hid hLn
        have HP2 : Hid (parseR l = match fieldsR l bb L with
            | .error i => (zeroR, i, 14)
            | .ok fs => (⟨l.getD 6 0, l.getD 7 0, fs⟩, 0, 0)) := by rw [HP.out, hL]; rfl
        clear hLa hLn hL HP HE1 HE2 hs1 hs2
        have h6 : l[6] = l.getD 6 0 := ge_getD l 6 (by omega)
        have h7 : l[7] = l.getD 7 0 := ge_getD l 7 (by omega)
        generalize l.getD 6 0 = kd at *
        generalize l.getD 7 0 = lv at *
        go_wp2_with fail
        go_region
        go_wp2_with fail
        have hst0 : RecSt w.heap.size w ((w.alloc (Obj.cells #[Value.int IntKind.u8 0, Value.int IntKind.u8 0, Value.slice none 0 0] 27)).alloc (Obj.cells #[Value.int IntKind.u8 kd.toNat, Value.int IntKind.u8 lv.toNat, Value.slice none 0 0] 27)).drew kd lv (.slice none 0 0) [] := by
          refine ⟨(((Below.refl _ w).alloc (Nat.le_refl _) _).alloc (by simp) _).drew, by simp, ?_, ?_, ?_, ?_, ?_, ?_, ?_, ?_, ?_, ?_, RecOwn.nil _ _⟩ <;> (go_tidy; clear HLA HLN HP2 H70 HB; go_simp)
        go_loopw [15, 16, 17, 18, 19] (fun i a b c d wr => ∃ (k p : Nat) (fs : List FieldD) (v : Value), k ≤ N ∧ 24 + 12 * k ≤ p ∧ p ≤ 24 + 12 * k ∧ i = .int .i64 (p : Int) ∧ fs.length ≤ k ∧ k ≤ fs.length ∧
          Hid (∀ e, fieldsR l bb (L.drop k) = .error e → fieldsR l bb L = .error e) ∧ Hid (∀ gs, fieldsR l bb (L.drop k) = .ok gs → fieldsR l bb L = .ok (fs ++ gs)) ∧ Hid (RecSt w.heap.size w wr kd lv v fs)) (fun i _ _ _ _ _ => (24 + 12 * N + 1) - (intOf i).toNat)
        case atStart => exact ⟨0, 24, [], .slice none 0 0, Nat.zero_le _, by omega, by omega, rfl, by simp, by simp, fun e h => h, fun gs h => by simpa using h, hst0⟩
        case round =>
          obtain ⟨k, p, fs, v, hk, hp1, hp2, rfl, hf1, hf2, HF1, HF2, HS⟩ := hrel
          obtain ⟨va, vc, rfl⟩ := HS.out.own.shape
          have hst := HS.out
          obtain ⟨hbel, hbig, z0, z1, z2, y0, y1, y2, c0, c1, c2, x2, _⟩ := hst
          by_cases hlt : k < N
          · obtain ⟨hLk, htg, hm1, hq1, hqm⟩ := HLA.out k hlt
            rw [show 24 + 12 * k = p from by omega] at hLk htg hm1 hq1 hqm
            obtain ⟨M, hM⟩ := Int.eq_ofNat_of_zero_le (show 0 ≤ numB (sub3 l (p + 3) (p + 7)) by omega)
            obtain ⟨Q, hQ⟩ := Int.eq_ofNat_of_zero_le hq1
            rw [hM, hQ] at hLk hqm
            rw [hM] at hm1
            have HM : Hid (∀ W, Calls Tryd.prog 71 #[S (List.drop (p + 3) (List.take (p + 7) l))] W fun e w' => e = .returned (.int .i64 (M : Int)) ∧ W = w') := by
              intro W; rw [← hM]; exact number_71 _ _ (by simp; omega)
            have HQ : Hid (∀ W, Calls Tryd.prog 71 #[S (List.drop (p + 7) (List.take (p + 12) l))] W fun e w' => e = .returned (.int .i64 (Q : Int)) ∧ W = w') := by
              intro W; rw [← hQ]; exact number_71 _ _ (by simp; omega)
            have HDR : Hid (L.drop k = (sub3 l p (p + 3), M, Q) :: L.drop (k + 1)) := by
              have hkl : k < L.length := by rw [HLN.out]; exact hlt
              rw [List.drop_eq_getElem_cons hkl]
              rw [List.getElem?_eq_getElem hkl] at hLk
              injection hLk with hLk
              rw [hLk]; simp [Hid]
            have htl := isTag_len htg
            obtain ⟨tg, htgd⟩ : ∃ tg, List.drop p (List.take (p + 3) l) = tg := ⟨_, rfl⟩
            obtain ⟨pc, hpc⟩ : ∃ pc, List.drop (bb + Q) (List.take (bb + Q + M) l) = pc := ⟨_, rfl⟩
            have hpl : pc.length = M := by rw [← hpc]; simp; omega
            have htl2 : 2 ≤ tg.length := by rw [← htgd]; show 2 ≤ (sub3 l p (p + 3)).length; omega
            have H73 : Hid (∀ W, Calls Tryd.prog 73 #[S tg, S pc] W (FieldPost tg pc W)) := fun W => field_73 tg pc W htl2 (by omega) (by omega)
            cases hfr : fieldR tg pc with
            | error i =>
              have hi := fieldR_err hfr (by intro e; subst e; simp at hpl; omega)
              have HE : Hid (parseR l = (zeroR, (bb : Int) + Q + i, 14)) := by
                rw [HP2.out, HF1.out _ (by rw [HDR.out]; exact fields_err (by rw [show sub3 l (bb + Q) (bb + Q + M) = pc from hpc, show sub3 l p (p + 3) = tg from htgd]; exact hfr))]; rfl
              have H73e : Hid (∀ W, Calls Tryd.prog 73 #[S (List.drop p (List.take ((p : Int) + 3).toNat l)), S (List.drop ((bb : Int) + Q).toNat (List.take ((bb : Int) + Q + M).toNat l))] W fun e w' => Below W.heap.size W w' ∧ ∃ ft fi fd a n cap, e = .returned (.tuple #[.agg #[S ft, S fi, S fd, .slice a n cap], .int .i64 i])) := fun W => by
                rw [show ((p : Int) + 3).toNat = p + 3 from by omega, show ((bb : Int) + Q).toNat = bb + Q from by omega, show ((bb : Int) + Q + M).toNat = bb + Q + M from by omega, htgd, hpc]
                exact (H73.out W).mono (fun e w' h => by unfold FieldPost at h; rw [hfr] at h; obtain ⟨h1, f, a, n, cap, h2⟩ := h; exact ⟨h1, f.tag, f.ind, f.data, a, n, cap, h2⟩)
              clear HF1 HF2
              go_wp2_with (first
                | (go_at_call 71; ((with_reducible refine Calls.mono (HM.out _) ?_); rintro e w' ⟨rfl, rfl⟩))
                | (go_at_call 71; ((with_reducible refine Calls.mono (HQ.out _) ?_); rintro e w' ⟨rfl, rfl⟩)))
              have HSK := Lib.hid (fun wx (hb : Below wr.heap.size wr wx) => HS.out.keep hb)
              go_cut [18, 19] (fun _f i' wx => i' = .int .i64 i ∧ Below wr.heap.size wr wx)
              case first =>
                have s1 : IntKind.i64.wrap ((p : Int) + 3) = p + 3 := IntWalk.i64_in _ (by omega)
                have s2 : IntKind.i64.wrap ((bb : Int) + Q + M) = bb + Q + M := IntWalk.i64_in _ (by omega)
                have t1 : (0 : Int) ≤ p := by omega
                have t2 : (p : Int) + 3 ≤ l.length := by omega
                have t3 : (0 : Int) ≤ (bb : Int) + Q := by omega
                have t4 : (bb : Int) + Q + M ≤ l.length := by omega
                have t5 : (0 : Int) ≤ M := by omega
                have t6 : (0 : Int) ≤ (p : Int) + 3 := by omega
                have t7 : (p : Int) ≤ (p : Int) + 3 := by omega
                have t8 : (0 : Int) ≤ (bb : Int) + Q + M := by omega
                have t9 : (bb : Int) + Q ≤ (bb : Int) + Q + M := by omega
                go_region_held3 (fun _ => True) (trivial) ((go_at_call 73; ((with_reducible refine Calls.mono (H73e.out _) ?_); rintro e w2 ⟨hb2, ft, fi, fd, fa, fn, fc, rfl⟩; have hz2 := hb2.size; obtain ⟨hcc, hff⟩ := bcell hb2)))
                all_goals
                  go_wp2_with fail
                  go_meet
                  refine ⟨rfl, ?_⟩
                  first
                    | exact ((((btr ((alloc_below1 wr _).drew) hb2 (by simp)).setCell (by simp) _).setCell (by simp) _).setCell (by simp) _).setCell (by simp) _
                    | exact (btr (Below.refl _ wr).drew hb2 (Nat.le_refl _)).alloc (by simpa using hz2) _
              case rest =>
                obtain ⟨rfl, hb3⟩ := hcut
                obtain ⟨k0, k1, k2, g0, g1, g2, _, _⟩ := (HSK.out _ hb3).cells
                have hi0 : decide (0 ≤ i) = true := by simp; omega
                go_wp2_with fail
                refine bodyPost_ret (v := .tuple #[.agg #[.int .u8 0, .int .u8 0, .slice none 0 0], .int .i64 ((bb : Int) + Q + i), .int .i64 14]) (by rw [results_cell_tmp2 rfl]; go_simp) rfl ?_
                exact parsePost_err HE.out (((((HSK.out _ hb3).below).setCell (Nat.le_refl _) _).setCell (Nat.le_refl _) _).setCell (Nat.le_refl _) _) rfl
            | ok f =>
              have HF1' : Hid (∀ e, fieldsR l bb (L.drop (k + 1)) = .error e → fieldsR l bb L = .error e) := fun e h => by
                refine HF1.out e ?_
                rw [HDR.out, fields_ok (by rw [show sub3 l (bb + Q) (bb + Q + M) = pc from hpc, show sub3 l p (p + 3) = tg from htgd]; exact hfr), h]
              have HF2' : Hid (∀ gs, fieldsR l bb (L.drop (k + 1)) = .ok gs → fieldsR l bb L = .ok ((fs ++ [f]) ++ gs)) := fun gs h => by
                rw [List.append_assoc]
                refine HF2.out _ ?_
                rw [HDR.out, fields_ok (by rw [show sub3 l (bb + Q) (bb + Q + M) = pc from hpc, show sub3 l p (p + 3) = tg from htgd]; exact hfr), h]; rfl
              have H73e : Hid (∀ W, Calls Tryd.prog 73 #[S (List.drop p (List.take ((p : Int) + 3).toNat l)), S (List.drop ((bb : Int) + Q).toNat (List.take ((bb : Int) + Q + M).toNat l))] W fun e w' => Below W.heap.size W w' ∧ ∃ da dn dc, e = .returned (.tuple #[.agg #[S f.tag, S f.ind, S f.data, .slice da dn dc], .int .i64 (-1)]) ∧ SubsAt W.heap.size w'.heap.size w' (.slice da dn dc) f.subs) := fun W => by
                rw [show ((p : Int) + 3).toNat = p + 3 from by omega, show ((bb : Int) + Q).toNat = bb + Q from by omega, show ((bb : Int) + Q + M).toNat = bb + Q + M from by omega, htgd, hpc]
                exact (H73.out W).mono (fun e w' h => by unfold FieldPost at h; rw [hfr] at h; obtain ⟨h1, d, h2, h3⟩ := h; obtain ⟨a, cap, rfl, h4⟩ := h3; exact ⟨h1, a, _, cap, h2, a, cap, rfl, h4⟩)
              clear HF1 HF2
              obtain ⟨i0, hi, hz0, hz1, hz2⟩ := info_parts i57
              have HI := Lib.hid hi
              have HI0 := Lib.hid hz0
              have HI1 := Lib.hid hz1
              have HI2 := Lib.hid hz2
              clear hi hz0 hz1 hz2
              obtain ⟨ftag, hft⟩ : ∃ x, f.tag = x := ⟨_, rfl⟩
              obtain ⟨find, hfi⟩ : ∃ x, f.ind = x := ⟨_, rfl⟩
              obtain ⟨fdata, hfd⟩ : ∃ x, f.data = x := ⟨_, rfl⟩
              rw [hft, hfi, hfd] at H73e
              have HFC : Hid (∀ d, fieldCells (f, d) = [S ftag, S find, S fdata, d]) := fun d => by rw [← hft, ← hfi, ← hfd]; rfl
              clear hft hfi hfd
              have HSK := Lib.hid (fun wx (hb : Below wr.heap.size wr wx) => HS.out.keep hb)
              go_wp2_with (first
                | (go_at_call 71; ((with_reducible refine Calls.mono (HM.out _) ?_); rintro e w' ⟨rfl, rfl⟩))
                | (go_at_call 71; ((with_reducible refine Calls.mono (HQ.out _) ?_); rintro e w' ⟨rfl, rfl⟩)))
              go_cut [18, 19] (fun fp i' wx => ∃ (g : Nat) (da : Option Addr) (dn dc : Nat), fp = .pointer (some ⟨g, 0, none⟩) ∧ i' = .int .i64 (-1) ∧ Below wr.heap.size wr wx ∧ wx.cell? ⟨g, 0, none⟩ = some (S ftag) ∧ wx.cell? ⟨g, 1, none⟩ = some (S find) ∧ wx.cell? ⟨g, 2, none⟩ = some (S fdata) ∧ wx.cell? ⟨g, 3, none⟩ = some (.slice da dn dc) ∧ Hid (SubsAt wr.heap.size wx.heap.size wx (.slice da dn dc) f.subs))
              case first =>
                have s1 : IntKind.i64.wrap ((p : Int) + 3) = p + 3 := IntWalk.i64_in _ (by omega)
                have s2 : IntKind.i64.wrap ((bb : Int) + Q + M) = bb + Q + M := IntWalk.i64_in _ (by omega)
                have t1 : (0 : Int) ≤ p := by omega
                have t2 : (p : Int) + 3 ≤ l.length := by omega
                have t3 : (0 : Int) ≤ (bb : Int) + Q := by omega
                have t4 : (bb : Int) + Q + M ≤ l.length := by omega
                have t5 : (0 : Int) ≤ M := by omega
                have t6 : (0 : Int) ≤ (p : Int) + 3 := by omega
                have t7 : (p : Int) ≤ (p : Int) + 3 := by omega
                have t8 : (0 : Int) ≤ (bb : Int) + Q + M := by omega
                have t9 : (bb : Int) + Q ≤ (bb : Int) + Q + M := by omega
                go_region_held3 (fun _ => True) (trivial) ((go_at_call 73; ((with_reducible refine Calls.mono (H73e.out _) ?_); rintro e w2 ⟨hb2, da, dn, dc, rfl, hsd⟩; have HSD := Lib.hid hsd; clear hsd; have hz2 := hb2.size; obtain ⟨hcc, hff⟩ := bcell hb2)))
                all_goals
                  go_wp2_with fail
                  go_meet
                  first
                    | (refine ⟨w2.heap.size, da, dn, dc, rfl, rfl, (btr (Below.refl _ wr).drew hb2 (Nat.le_refl _)).alloc (by simpa using hz2) _, by clear HSK HSD; go_simp, by clear HSK HSD; go_simp, by clear HSK HSD; go_simp, by clear HSK HSD; go_simp, ?_⟩
                       have h4 := subs_alloc HSD.out (Nat.le_refl _)
                       exact (h4 _).mono (Nat.le_refl _) (by simp))
                    | (refine ⟨wr.heap.size, da, dn, dc, rfl, rfl, ((((btr ((alloc_below1 wr _).drew) hb2 (by simp)).setCell (by simp) _).setCell (by simp) _).setCell (by simp) _).setCell (by simp) _, by clear HSK HSD; go_simp, by clear HSK HSD; go_simp, by clear HSK HSD; go_simp, by clear HSK HSD; go_simp, ?_⟩
                       refine SubsAt.mono (subs_setCell (subs_setCell (subs_setCell (subs_setCell HSD.out ?_ 0 _) ?_ 1 _) ?_ 2 _) ?_ 3 _) ?_ ?_ <;> simp)
              case rest =>
                obtain ⟨g, da, dn, dc, rfl, rfl, hb3, q0, q1, q2, q3, HSD⟩ := hcut
                have hst3 := HSK.out _ hb3
                have HST3 := Lib.hid hst3
                have HGR := Lib.hid hst3.far
                obtain ⟨k0, k1, k2, g0, g1, g2, m2, mf⟩ := hst3.cells
                obtain ⟨ps, hp1, hp2, hp3⟩ := hst3.own.ex
                have HP1 := Lib.hid hp1
                have HPP2 := Lib.hid hp2
                have HP3 := Lib.hid hp3
                have hbz3 := hb3.size
                have hbig3 := hst3.big
                have HLT : Hid (∀ k, (Value.slice va fs.length vc).ownBlock = some k → w.heap.size + 2 ≤ k ∧ k < wr.heap.size) := fun k hk => by
                  obtain ⟨ps', _, _, h3⟩ := HS.out.own.ex
                  exact h3.lt k hk
                have hn1 : decide ((0 : Int) ≤ -1) = false := by decide
                clear hst3 hp1 hp2 hp3 HS HSK
                go_wp2_with (at_builtin; refine wpList_append_own_at _ rfl _ _ 25 rfl (w.heap.size + 2) 57 i0 (.agg #[.string ⟨#[]⟩, .string ⟨#[]⟩, .string ⟨#[]⟩, .slice none 0 0]) 4 72 Tryd.underlying25 HI.out HI0.out HI1.out HI2.out rfl (by omega) (.slice va fs.length vc) fs.length _ rfl (HP3.out.alloc _) ⟨‹World›.heap.size, 0, none⟩ 1 1 [S ftag, S find, S fdata, .slice da dn dc] rfl rfl (cell_four_new _ _ _ _ _ _) (by simp [Value.oneCell']) (by unfold maxLen; omega) (by omega) (by simp; omega) ?_; intro v' w4 hown4 hgw _ hat; obtain ⟨va', vc', rfl⟩ := owns_shape hown4; have HO4 := Lib.hid hown4; have HG4 := Lib.hid hgw; have HAT := Lib.hid hat; obtain ⟨e4, f4⟩ := HGR.out _ _ hgw; clear hown4 hgw hat)
                go_roundw
                case rel => exact ⟨k + 1, p + 12, fs ++ [f], .slice va' (fs.length + 1) vc', by omega, by omega, by omega, by go_num, by simp; omega, by simp; omega, HF1', HF2', HST3.out.app2 _ f (.slice da dn dc) ps HP1.out HPP2.out HP3.out (SubsOff.of HSD.out (by omega) (fun k hk => (HLT.out k hk).2)) (by rw [HFC.out]; exact HO4.out) HG4.out HAT.out⟩
                case measure => simp [intOf]; omega
          · have HL0 := HF2.out [] (by rw [List.drop_of_length_le (by rw [HLN.out]; omega)]; rfl)
            have HE : Hid (parseR l = (⟨kd, lv, fs⟩, 0, 0)) := by rw [HP2.out, HL0]; simp [Hid]
            go_wp2_with fail
            refine bodyPost_ret (v := .tuple #[.agg #[.int .u8 kd.toNat, .int .u8 lv.toNat, .slice va fs.length vc], .int .i64 0, .int .i64 0]) (by rw [results_cell_tmp2 rfl]; go_simp) rfl ?_
            refine parsePost_ok HE.out (((hbel.setCell (Nat.le_refl _) _).setCell (Nat.le_refl _) _).setCell (Nat.le_refl _) _) _ rfl ⟨_, rfl, ?_⟩
            exact (HS.out.own.keep (fun j hj _ => by rw [Below.heap_setCell _ _ _ _ (by simp; omega), Below.heap_setCell _ _ _ _ (by simp; omega), Below.heap_setCell _ _ _ _ (by simp; omega)]) (by simp)).fields (by omega)
  · have HE : Hid (parseR l = (zeroR, at0, e0)) := by
      unfold parseR; rw [if_pos (by rw [he0]; exact hz), ← hat, ← he0]; rfl
    have hne : (e0 != 0) = true := by simpa using hz
    clear hat he0 hz
    go_enter Tryd.func51, Tryd.ntmps51
    go_wp2_with (go_at_call 70; ((with_reducible refine Calls.mono (H70.out _) ?_); rintro e w' ⟨rfl, rfl⟩))
    refine bodyPost_ret (v := .tuple #[.agg #[.int .u8 0, .int .u8 0, .slice none 0 0], .int .i64 at0, .int .i64 e0]) (by rw [results_cell_tmp2 rfl]; go_simp) rfl ?_
    exact parsePost_err HE.out (alloc_below1 w _) rfl
end Go.Proofs.YtfkleeigdplapaaDoor
