/-
  The walk of Spoiled: some record, of a bounded size.
-/
import Derived.Test.YtfkleeigdplapaaDoorQ1
import Derived.Deep.CutBlock
import Derived.Deep.RegionHeld3
namespace Go.Proofs.YtfkleeigdplapaaDoor
open Go.RowKit
attribute [local go_sem ↓] Go.wp_at_zero Go.wp_at_succ

/-- Some record in memory, from lo on, of at most N fields of at most M bytes. -/
def SomeRec (lo N M : Nat) (r : RecD) (sa : Option Addr) (cap : Nat) (w : World) : Prop := FieldsAt lo w.heap.size w (.slice sa r.fields.length cap) r.fields ∧ r.fields.length ≤ N ∧ ∀ f ∈ r.fields, (fieldBytes f).length ≤ M
theorem wpList_app55 {w : World} {ops : Array Oper} {rest : List Oper} {o : Oper} {a : Act} {Q : Exit → Act → World → Prop} (hgd : o.guard = none) (sl x : Operand)
    (ho : o.op = .call { callee := .builtin .append, args := #[sl, x], argTypes := #[55, 55] }) (hty : o.type = 55) (v u v' : Value) (w' : World) (hs : a.eval sl = v) (hx : a.eval x = u)
    (hr : (Builtin.append_ #[55, 55] 55 #[v, u]).run Tryd.prog w = .ok v' w') (h : wpList Tryd.prog ops Q rest (a.put o.dst v') w') : wpList Tryd.prog ops Q (o :: rest) a w := by
  refine wpList_plain hgd fun K hK => ?_
  unfold Oper.wp execOp
  simp only [ho, hty, resolve, invoke, builtin, Sem.run_bind, Sem.run_pure, Result.andThen_ok, List.map_toArray, List.map_cons, List.map_nil, hs, hx, hr]
  exact hK _ _ h
abbrev recO (kd lv : UInt8) (v : Value) : Obj := Obj.cells #[.int .u8 kd.toNat, .int .u8 lv.toNat, v] 27
abbrev numsO (a b c : Int) : Obj := Obj.cells #[.int .i64 a, .int .i64 b, .int .i64 c] 23
abbrev nilO : Obj := Obj.cells #[.int .u8 0, .int .u8 0, .slice none 0 0] 27
theorem SpHd.init (w : World) (kd lv : UInt8) : SpHd w.heap.size w ((w.alloc nilO).alloc (recO kd lv (.slice none 0 0))) kd lv (.slice none 0 0) := by
  refine ⟨((Below.refl _ w).alloc (Nat.le_refl _) _).alloc (by simp) _, by simp, ?_, ?_, ?_, ?_, ?_, ?_, ?_, ?_, ?_, ?_, ?_, ?_⟩
  all_goals go_simp
/-- The argument's boxes. -/
theorem boxes (w : World) (kd lv : UInt8) (v : Value) (a b c : Int) (W : World) (h : Below (w.heap.size + 2) ((w.alloc (recO kd lv v)).alloc (numsO a b c)) W) :
    W.cell? ⟨w.heap.size, 2, none⟩ = some v ∧ W.cell? ⟨w.heap.size + 1, 0, none⟩ = some (.int .i64 a) ∧ W.cell? ⟨w.heap.size + 1, 1, none⟩ = some (.int .i64 b) ∧ W.cell? ⟨w.heap.size + 1, 2, none⟩ = some (.int .i64 c) := by
  refine ⟨?_, ?_, ?_, ?_⟩ <;> (rw [h.cell (p := ⟨_, _, none⟩) (by simp)]; go_simp)
def textsL : List Bs := [[], [31], [30], [97, 29, 98], [255], [195], [237, 160, 128], [224, 128, 128], [127], [195, 169], [116, 97, 98, 9]]
abbrev textsO : Obj := Obj.cells #[S [], S [31], S [30], S [97, 29, 98], S [255], S [195], S [237, 160, 128], S [224, 128, 128], S [127], S [195, 169], S [116, 97, 98, 9]] 9
theorem texts_at (w : World) (m : Nat) (hm : m < 11) : ∃ x : Bs, (w.alloc textsO).cell? ⟨w.heap.size, m, none⟩ = some (S x) ∧ x.length ≤ 10 :=
  ⟨_, strs_cell w textsL 9 m hm, by
    have : ∀ x ∈ textsL, x.length ≤ 10 := by decide
    exact this _ (getD_mem hm)⟩
theorem RecOwn.far {lo : Nat} {w w' : World} {v : Value} {fs : List FieldD} (h : RecOwn lo w v fs) (hk : ∀ k, lo ≤ k → k < w.heap.size → w'.heap[k]? = w.heap[k]?) (hz : w.heap.size ≤ w'.heap.size) : RecOwn lo w' v fs := h.keep hk hz
def tags7L : List Bs := [[48, 48, 48], [50, 52], [50, 52, 53, 53], [50, 52, 97], [], [48, 48, 49], [50, 52, 53]]
abbrev tags7O : Obj := Obj.cells #[S [48, 48, 48], S [50, 52], S [50, 52, 53, 53], S [50, 52, 97], S [], S [48, 48, 49], S [50, 52, 53]] 9
theorem tags7_at (w : World) (m : Nat) (hm : m < 7) : ∃ x : Bs, (w.alloc tags7O).cell? ⟨w.heap.size, m, none⟩ = some (S x) ∧ x.length ≤ 10 :=
  ⟨_, strs_cell w tags7L 9 m hm, by
    have : ∀ x ∈ tags7L, x.length ≤ 10 := by decide
    exact this _ (getD_mem hm)⟩
def inds6L : List Bs := [[], [49], [49, 50, 51], [31, 48], [32, 126], [48, 127]]
abbrev inds6O : Obj := Obj.cells #[S [], S [49], S [49, 50, 51], S [31, 48], S [32, 126], S [48, 127]] 9
theorem inds6_at (w : World) (m : Nat) (hm : m < 6) : ∃ x : Bs, (w.alloc inds6O).cell? ⟨w.heap.size, m, none⟩ = some (S x) ∧ x.length ≤ 10 :=
  ⟨_, strs_cell w inds6L 9 m hm, by
    have : ∀ x ∈ inds6L, x.length ≤ 10 := by decide
    exact this _ (getD_mem hm)⟩
theorem u8_wrap (z : Int) : ∃ c : UInt8, IntKind.u8.wrap z = (c.toNat : Int) := by
  obtain ⟨c, hc⟩ := u8_of z
  exact ⟨c, by rw [IntKind.wrap_u8]; exact hc⟩
/-- What the switch leaves. -/
def SpFin (N M B : Nat) (w0 wx : World) : Prop := ∃ (kd lv : UInt8) (va : Option Addr) (vc : Nat) (hs : List FieldD), Hid (SpHd B w0 wx kd lv (.slice va hs.length vc)) ∧ Hid (RecOwn (B + 2) wx (.slice va hs.length vc) hs) ∧ hs.length ≤ N ∧ Hid (∀ f ∈ hs, (fieldBytes f).length ≤ M)
/-- What the end leaves. -/
theorem sp_post {w w0 wr : World} {B : Nat} {kd lv : UInt8} {v : Value} {gs : List FieldD} (N M : Nat) (hb0 : Below w.heap.size w w0) (hB : w.heap.size ≤ B) (hh : SpHd B w0 wr kd lv v) (ho : RecOwn (B + 2) wr v gs) (hn : gs.length ≤ N) (hm : ∀ f ∈ gs, (fieldBytes f).length ≤ M) (e : Ending)
    (he : e = .returned (.agg #[.int .u8 kd.toNat, .int .u8 lv.toNat, v])) : ∃ (r : RecD) (sb : Option Addr) (cb : Nat), e = .returned (.agg #[.int .u8 r.kind.toNat, .int .u8 r.level.toNat, .slice sb r.fields.length cb]) ∧
      Below w.heap.size w (((wr.setCell ⟨B, 0, none⟩ (.int .u8 kd.toNat)).setCell ⟨B, 1, none⟩ (.int .u8 lv.toNat)).setCell ⟨B, 2, none⟩ v) ∧ SomeRec w.heap.size N M r sb cb (((wr.setCell ⟨B, 0, none⟩ (.int .u8 kd.toNat)).setCell ⟨B, 1, none⟩ (.int .u8 lv.toNat)).setCell ⟨B, 2, none⟩ v) := by
  obtain ⟨a, cap, rfl⟩ := ho.shape
  refine ⟨⟨kd, lv, gs⟩, a, cap, he, (((btr hb0 hh.below hB).setCell (by simp; omega) _).setCell (by simp; omega) _).setCell (by simp; omega) _, ?_, hn, hm⟩
  exact (ho.keep (fun j hj _ => by rw [Below.heap_setCell _ _ _ _ (by simp; omega), Below.heap_setCell _ _ _ _ (by simp; omega), Below.heap_setCell _ _ _ _ (by simp; omega)]) (by simp)).fields (by omega)
set_option linter.unusedSimpArgs false in
set_option maxHeartbeats 8000000 in
set_option maxRecDepth 100000 in
theorem spoiled_14 (kd lv : UInt8) (fs : List FieldD) (sa : Option Addr) (cap : Nat) (q0 q1 q2 : Int) (w : World) (N M : Nat) (hf : FieldsAt 0 w.heap.size w (.slice sa fs.length cap) fs) (hN : fs.length ≤ N) (hN2 : N ≤ 5000) (hM : ∀ f ∈ fs, (fieldBytes f).length ≤ M) (hM2 : M ≤ 50000) :
    Calls Tryd.prog 14 #[.agg #[.int .u8 kd.toNat, .int .u8 lv.toNat, .slice sa fs.length cap], .agg #[.int .i64 q0, .int .i64 q1, .int .i64 q2]] w fun e w' => ∃ (r : RecD) (sb : Option Addr) (cb : Nat),
      e = .returned (.agg #[.int .u8 r.kind.toNat, .int .u8 r.level.toNat, .slice sb r.fields.length cb]) ∧ Below w.heap.size w w' ∧ SomeRec w.heap.size (N + 1100) (M + 10100) r sb cb w' := by
  have HF : Hid (∀ W, Below w.heap.size w W → FieldsAt 0 w.heap.size W (.slice sa fs.length cap) fs) := fun W h => hf.kept (bkept h (Nat.le_refl _))
  have HM := Lib.hid hM
  have HQ : Hid (∀ W, Below (w.heap.size + 2) ((w.alloc (recO kd lv (.slice sa fs.length cap))).alloc (numsO q0 q1 q2)) W → _) := fun W h => boxes w kd lv (.slice sa fs.length cap) q0 q1 q2 W h
  obtain ⟨w0, hw0⟩ : ∃ w0, w0 = ((w.alloc (recO kd lv (.slice sa fs.length cap))).alloc (numsO q0 q1 q2)) := ⟨_, rfl⟩
  have hz0 : w0.heap.size = w.heap.size + 2 := by rw [hw0]; simp
  have HI := SpHd.init w0 kd lv
  rw [hz0, hw0] at HI
  have HI := Lib.hid HI
  have HB0 : Hid (Below w.heap.size w w0) := by rw [hw0]; exact ((Below.refl _ w).alloc (Nat.le_refl _) _).alloc (by simp) _
  rw [← hw0] at HQ
  have HW0 := Lib.hid hw0
  clear hf hM hw0
  go_enter Tryd.func14, Tryd.ntmps14
  go_wp2_with fail
  go_loopw [6] (fun i wr => ∃ (k : Nat) (gs : List FieldD) (va : Option Addr) (vc : Nat), i = .int .i64 k ∧ k ≤ fs.length ∧ Hid (gs = fs.take k) ∧ Hid (gs.length = k) ∧ gs.length ≤ 5000 ∧ Hid (SpHd (w.heap.size + 2) w0 wr kd lv (.slice va gs.length vc)) ∧ Hid (SpOwn (w.heap.size + 2 + 2) wr (.slice va gs.length vc) gs)) (fun i _ => fs.length - (intOf i).toNat)
  case atStart => exact ⟨0, [], none, 0, rfl, by omega, by simp [Hid], rfl, by simp, by rw [HW0.out]; exact HI, SpOwn.nil _ _⟩
  case round =>
    obtain ⟨k, gs, va, vc, rfl, hk, HGS, HGL, hgl, HH, HO⟩ := hrel
    have hb := HH.out.below
    obtain ⟨b2, bq0, bq1, bq2⟩ := HQ.out wr hb
    have hbig := HH.out.big
    by_cases hlt : k < fs.length
    · obtain ⟨b, off, cap', d, hv, _, hbw, ht1, ht2, ht3, ht4, hsd⟩ := (HF.out _ (btr HB0.out hb (by omega))).field k hlt
      cases hv
      obtain ⟨f, hfk⟩ : ∃ f, fs[k] = f := ⟨_, rfl⟩
      have hfM := HM.out _ (List.getElem_mem hlt)
      have HG1 : Hid (gs ++ [f] = fs.take (k + 1)) := by rw [HGS.out, List.take_succ_eq_append_getElem hlt, hfk]; rfl
      rw [hfk] at ht1 ht2 ht3 hsd hfM
      have hsl : f.subs.length ≤ 1000000 := by have := subs_le f; omega
      clear hfk
      obtain ⟨da, dc, rfl⟩ : ∃ da dc, d = .slice da f.subs.length dc := by obtain ⟨a, c, h, _⟩ := hsd; exact ⟨a, c, h⟩
      obtain ⟨W5, hW5⟩ : ∃ W5, W5 = (wr.alloc (Obj.cells #[S f.tag, S f.ind, S f.data, .slice da f.subs.length dc] 57)).alloc (Obj.cells #[] 59) := ⟨_, rfl⟩
      have hW5b : Below wr.heap.size wr W5 := by rw [hW5]; exact ((Below.refl _ wr).alloc (Nat.le_refl _) _).alloc (by simp) _
      have hW5z : W5.heap.size = wr.heap.size + 2 := by rw [hW5]; simp
      have hW5e : W5.heap[wr.heap.size + 1]? = some (.cells #[] 59 (0, 0)) := by
        rw [hW5]; have := heap_alloc_new (wr.alloc (Obj.cells #[S f.tag, S f.ind, S f.data, .slice da f.subs.length dc] 57)) (Obj.cells #[] 59); simpa using this
      have hW5f : W5.heap[wr.heap.size]? = some (Obj.cells #[S f.tag, S f.ind, S f.data, .slice da f.subs.length dc] 57) := by
        rw [hW5, Below.heap_alloc _ _ _ (by simp)]; exact heap_alloc_new _ _
      obtain ⟨a5, c5, w6, hr6, hown6, hg6, hblk⟩ := copy_subs (w.heap.size + 2 + 2) W5 (wr.heap.size + 1) (.slice da f.subs.length dc) f.subs hW5e ((hsd.kept (bkept hW5b (by have := HB0.out.size; have := hb.size; omega))).mono (Nat.le_refl _) (by rw [hW5z]; have := HB0.out.size; have := hb.size; omega)) hsl (by omega)
      have h6f : w6.heap[wr.heap.size]? = some (Obj.cells #[S f.tag, S f.ind, S f.data, .slice da f.subs.length dc] 57) := by rw [hg6.block _ (by omega) (by intro e; injection e with e; omega)]; exact hW5f
      have e3 : w6.cell? ⟨wr.heap.size, 3, none⟩ = some (.slice da f.subs.length dc) := by simp [World.cell?, h6f, Obj.cells]
      have x3 : w6.frozen? ⟨wr.heap.size, 3, none⟩ = false := by simp [World.frozen?, h6f, Obj.cells]
      have e0 : (w6.setCell ⟨wr.heap.size, 3, none⟩ (.slice (some a5) f.subs.length c5)).cell? ⟨wr.heap.size, 0, none⟩ = some (S f.tag) := by
        rw [World.cell?_setCell_other _ _ _ _ (by simp)]; simp [World.cell?, h6f, Obj.cells]
      have e1 : (w6.setCell ⟨wr.heap.size, 3, none⟩ (.slice (some a5) f.subs.length c5)).cell? ⟨wr.heap.size, 1, none⟩ = some (S f.ind) := by
        rw [World.cell?_setCell_other _ _ _ _ (by simp)]; simp [World.cell?, h6f, Obj.cells]
      have e2 : (w6.setCell ⟨wr.heap.size, 3, none⟩ (.slice (some a5) f.subs.length c5)).cell? ⟨wr.heap.size, 2, none⟩ = some (S f.data) := by
        rw [World.cell?_setCell_other _ _ _ _ (by simp)]; simp [World.cell?, h6f, Obj.cells]
      have e4 : (w6.setCell ⟨wr.heap.size, 3, none⟩ (.slice (some a5) f.subs.length c5)).cell? ⟨wr.heap.size, 3, none⟩ = some (.slice (some a5) f.subs.length c5) := World.cell?_setCell_same _ _ _ e3
      have h7k : ∀ k, k < wr.heap.size → (w6.setCell ⟨wr.heap.size, 3, none⟩ (.slice (some a5) f.subs.length c5)).heap[k]? = wr.heap[k]? := fun k hk => by
        rw [Below.heap_setCell _ _ _ _ (by simp; omega), hg6.block k (by omega) (by intro e; injection e with e; omega), hW5b.block k hk]
      have h7z : wr.heap.size + 2 ≤ (w6.setCell ⟨wr.heap.size, 3, none⟩ (.slice (some a5) f.subs.length c5)).heap.size := by have := hg6.size; simp; omega
      have h7b : Below (w.heap.size + 2) w0 (w6.setCell ⟨wr.heap.size, 3, none⟩ (.slice (some a5) f.subs.length c5)) :=
        ⟨by rw [show (w6.setCell ⟨wr.heap.size, 3, none⟩ (.slice (some a5) f.subs.length c5)).os = w6.os from rfl]; exact hg6.os.trans (hW5b.os.trans hb.os), hg6.tape.trans (hW5b.tape.trans hb.tape), hg6.output.trans (hW5b.output.trans hb.output), by have := hb.size; omega,
          fun k hk => (h7k k (by omega)).trans (hb.block k hk)⟩
      have h7d : (w6.setCell ⟨wr.heap.size, 3, none⟩ (.slice (some a5) f.subs.length c5)).ownsRow (w.heap.size + 2 + 2) 59 2 (.slice (some a5) f.subs.length c5) f.subs.length (f.subs.flatMap subCells) :=
        ownr_far hown6 (fun g hg => Below.heap_setCell _ _ _ _ (by simp [Value.ownBlock] at hg; simp; omega))
      have hgl : wr.heap.size ≤ a5.block := by omega
      obtain ⟨ps, _, hps, _⟩ := HO.out.ex
      have h7o : (w6.setCell ⟨wr.heap.size, 3, none⟩ (.slice (some a5) f.subs.length c5)).ownsRow (w.heap.size + 2 + 2) 57 4 (.slice va gs.length vc) gs.length (ps.flatMap fieldCells) := ownr_far hps (fun g hg => h7k g (hps.lt g hg).2)
      have h7h := HH.out.far h7b (fun k hk => h7k k (by omega)) (by omega)
      have e5 := h7h.c2
      have HVB : Hid (∀ k, (Value.slice va gs.length vc).ownBlock = some k → w.heap.size + 2 + 2 ≤ k) := fun k hk => (hps.lt k hk).1
      rw [hW5] at hr6
      have HR6 := Lib.hid hr6
      have HPS := Lib.hid hps
      clear hW5 hW5b hW5z hW5e hW5f h6f hr6 hown6 hg6 hblk hps
      go_upto_region 7 with (at_builtin; refine wpList_app55 rfl _ _ rfl rfl _ _ _ _ rfl rfl HR6.out ?_)
      generalize (w6.setCell ⟨wr.heap.size, 3, none⟩ (.slice (some a5) f.subs.length c5)) = w7 at *
      have HK7 := Lib.hid h7k
      have HB7 := Lib.hid h7b
      have HD7 := Lib.hid h7d
      have HO7 := Lib.hid h7o
      have HH7 := Lib.hid h7h
      obtain ⟨i0, hi, hi0, hi1, hi2⟩ := info_parts i57'
      have HI := Lib.hid hi
      have HI0 := Lib.hid hi0
      have HI1 := Lib.hid hi1
      have HI2 := Lib.hid hi2
      clear h7k h7b h7d h7o h7h hi hi0 hi1 hi2 HR6
      go_wp2_with (at_builtin; refine wpList_append_own_at _ rfl _ _ 25 rfl (w.heap.size + 2 + 2) 57 i0 (.agg #[.string ⟨#[]⟩, .string ⟨#[]⟩, .string ⟨#[]⟩, .slice none 0 0]) 4 72 Tryd.underlying25 HI.out HI0.out HI1.out HI2.out rfl (by omega) (.slice va gs.length vc) gs.length _ rfl (HO7.out.alloc _) ⟨w7.heap.size, 0, none⟩ 1 1 [S f.tag, S f.ind, S f.data, .slice (some a5) f.subs.length c5] rfl rfl (cell_four_new' _ _ _ _ _ _) (by simp [Value.oneCell']) (by unfold maxLen; omega) (by omega) (by simp; omega) ?_; intro v' w8 hown8 hgw _ hat; obtain ⟨va', vc', rfl⟩ := owns_shape hown8; have HO8 := Lib.hid hown8; have HG8 := Lib.hid hgw; have HAT := Lib.hid hat; obtain ⟨e8, f8⟩ := sp_far HH7.out hgw HVB.out; clear hown8 hgw hat)
      go_roundw
      case rel =>
        have := sp_app _ f (.slice (some a5) f.subs.length c5) a5.block HH.out HO.out HB7.out HK7.out (by omega) HD7.out rfl hgl _ HPS.out HO8.out HG8.out HAT.out
        refine ⟨k + 1, gs ++ [f], va', vc', by go_num, by omega, HG1, by rw [List.length_append, HGL.out]; rfl, by have := HGL.out; simp; omega, ?_, ?_⟩
        · simpa [Hid] using this.1
        · simpa [Hid] using this.2
      case measure => simp [intOf]; omega
    · have hkN : k = fs.length := by omega
      have hgn : gs.length ≤ N := by rw [HGL.out]; omega
      have HGM : Hid (∀ f ∈ gs, (fieldBytes f).length ≤ M) := fun f hf => HM.out f (by rw [HGS.out] at hf; exact List.mem_of_mem_take hf)
      clear HGS HGL HF HM bq0 bq1 bq2
      generalize wr = w4 at *
      have HTX : Hid (∀ m, m < 11 → ∃ x : Bs, (w4.alloc textsO).cell? ⟨w4.heap.size, m, none⟩ = some (S x) ∧ x.length ≤ 10) := fun m hm => texts_at w4 m hm
      have HH5 := Lib.hid (HH.out.keep (alloc_below1 w4 textsO))
      have HO5 := Lib.hid (HO.out.keep (alloc_below1 w4 textsO))
      go_upto_region 9 with fail
      clear b2 hk hlt hkN
      generalize (w4.alloc textsO) = w5 at *
      obtain ⟨b2, bq0, bq1, bq2⟩ := HQ.out w5 HH5.out.below
      go_cut [9] (fun t wx => ∃ x : Bs, t = S x ∧ x.length ≤ 10 ∧ wx = w5)
      case first =>
        go_wp2_with (go_at_call 21; ((with_reducible refine Calls.mono (mod_at q2 11 (by decide) (by decide) _) ?_); rintro e w' ⟨m, hm, rfl, rfl⟩; obtain ⟨x, hx, hxl⟩ := HTX.out m hm))
        go_meet
        exact ⟨x, rfl, hxl, rfl⟩
      case rest =>
        obtain ⟨T, rfl, hTl, hwx⟩ := hcut
        subst hwx
        generalize wc = w6 at *
        clear HTX HH HO hbig hb
        have hb := HH5.out.below
        have hbig := HH5.out.big
        have c0 := HH5.out.c0
        have c1 := HH5.out.c1
        have c2 := HH5.out.c2
        have x0 := HH5.out.x0
        have z0 := HH5.out.z0
        have z1 := HH5.out.z1
        have z2 := HH5.out.z2
        have y0 := HH5.out.y0
        have y1 := HH5.out.y1
        have y2 := HH5.out.y2
        by_cases h0 : gs.length = 0
        · obtain ⟨c, hc⟩ := u8_of q1
          have hh := HH5.out.set0 c
          have hr := HO5.out.toRec.far (w' := w6.setCell ⟨w.heap.size + 2 + 1, 0, none⟩ (.int .u8 c.toNat)) (fun k hk _ => Below.heap_setCell _ _ _ _ (by simp; omega)) (by simp)
          have HHE := Lib.hid hh
          have HRE := Lib.hid hr
          clear hh hr
          rw [h0] at HHE HRE
          go_wp2_with fail
          all_goals
            refine bodyPost_ret (v := .agg #[.int .u8 c.toNat, .int .u8 lv.toNat, .slice va 0 vc]) (by simp only [results, Tryd.results14]; go_simp) rfl ?_
            exact sp_post (N + 1100) (M + 10100) HB0.out (by omega) HHE.out HRE.out (by omega) (fun f hf => by have := HGM.out f hf; omega) _ rfl
        · have hpos : 0 < gs.length := by omega
          obtain ⟨g, cap5, hva, hgB, hglt⟩ : ∃ g cap', Value.slice va gs.length vc = .slice (some ⟨g, 0, none⟩) gs.length cap' ∧ w.heap.size + 2 + 2 ≤ g ∧ g < w6.heap.size := by
            obtain ⟨_, _, h2, _⟩ := HO5.out.ex
            exact h2.form hpos
          cases hva
          clear x0 z0 z1 z2 y0 y1 y2 c0 c1
          go_upto_region 13 with fail
          go_cut [10] (fun t wx => ∃ m : Nat, m < gs.length ∧ t = .pointer (some ⟨g, m * 4, none⟩) ∧ Below w6.heap.size w6 wx)
          case first =>
            have t1 : (0 : Int) ≤ 0 := by omega
            go_region_held3 (fun w' => w'.cell? ⟨w.heap.size + 2 + 1, 2, none⟩ = some (.slice (some ⟨g, 0, none⟩) gs.length vc) ∧ w'.cell? ⟨w.heap.size + 1, 1, none⟩ = some (.int .i64 q1)) (go_keep)
              ((go_at_call 21; ((with_reducible refine Calls.mono (mod_int q1 _ gs.length (by omega) (by omega) rfl _) ?_); rintro e w' ⟨m, hm, rfl, rfl⟩)))
            go_wp2_with fail
            go_meet
            exact ⟨m, hm, by simp, (Below.refl _ w6).drew⟩
          case rest =>
            obtain ⟨m, hm, rfl, hbx⟩ := hcut
            have HH7 := Lib.hid (HH5.out.keep hbx)
            have HO7 := Lib.hid (HO5.out.keep hbx)
            have hz7 := hbx.size
            clear c2 b2 bq0 bq1 bq2 HH5 HO5 hbx hb hbig
            generalize wc = w7 at *
            have hglt7 : g < w7.heap.size := by omega
            clear hz7 hglt
            obtain ⟨b2, bq0, bq1, bq2⟩ := HQ.out w7 HH7.out.below
            obtain ⟨ps, hp1, hp2, hp3, hp4⟩ := HO7.out.ex
            have hmp : m < ps.length := by rw [← hp1] at hm; simpa using hm
            have hnp : gs.length = ps.length := by rw [← hp1]; simp
            obtain ⟨t0, t1, t2, t3, tf⟩ := owns_field hp2 m hmp
            obtain ⟨f, hfe⟩ : ∃ f, ps[m].1 = f := ⟨_, rfl⟩
            have hfM : (fieldBytes f).length ≤ M := HGM.out f (by rw [← hfe, ← hp1]; exact List.mem_map_of_mem (List.getElem_mem hmp))
            have hq := hp3 _ (List.getElem_mem hmp)
            rw [hfe] at t0 t1 t2 hq
            obtain ⟨d, hde⟩ : ∃ d, ps[m].2 = d := ⟨_, rfl⟩
            rw [hde] at t3 hq
            obtain ⟨⟨hqo, gd, hqg, hqn⟩⟩ : Nonempty (w7.ownsRow (w.heap.size + 2 + 2) 59 2 d f.subs.length (f.subs.flatMap subCells) ∧ _) := ⟨hq⟩
            obtain ⟨da, dc, rfl⟩ := owns_shape hqo
            have HPS : Hid (ps[m] = (f, .slice da f.subs.length dc)) := Prod.ext hfe hde
            have HSO : Hid (∀ p ∈ ps, SubsOff (w.heap.size + 2 + 2) (some g) w7 p.2 p.1.subs) := fun p hp => owns_off (hp3 p hp).1 (fun k hk e => by obtain ⟨_, g2, h1, h2⟩ := hp3 p hp; rw [h1] at hk; injection hk with hk; subst hk; exact h2 e)
            have HFM : Hid (∀ (f' : FieldD) (d' : Value), (fieldBytes f').length ≤ M + 10100 → ∀ h ∈ (ps.set m (f', d')).map (·.1), (fieldBytes h).length ≤ M + 10100) := fun f' d' hl h hh => by
              obtain ⟨p, hp, rfl⟩ := List.mem_map.1 hh
              rcases List.mem_or_eq_of_mem_set hp with hp | rfl
              · have := HGM.out p.1 (by rw [← hp1]; exact List.mem_map_of_mem hp)
                omega
              · exact hl
            have HPUT : Hid (∀ (i : Nat) (u : Value) (f' : FieldD) (d' : Value), i < 4 → (fieldCells (f, .slice da f.subs.length dc)).set i u = fieldCells (f', d') → SubsOff (w.heap.size + 2 + 2) (some g) w7 d' f'.subs → (fieldBytes f').length ≤ M + 10100 → ∀ W : World, Below w7.heap.size w7 W →
                SpFin (N + 1100) (M + 10100) (w.heap.size + 2) w0 (W.setCell ⟨g, m * 4 + i, none⟩ u)) := by
              intro i u f' d' hi hc hs hl W hW
              have hso : ∀ x ss, SubsOff (w.heap.size + 2 + 2) (some g) w7 x ss → SubsOff (w.heap.size + 2 + 2) (some g) W x ss := fun x ss h => h.step (fun k _ hk _ => hW.block k hk) hW.size (.inl rfl)
              have hr := RecOwn.put (w := W) ps hnp m i hmp (fun k hk _ => hso _ _ (HSO.out _ (List.getElem_mem hk))) (ownr_far hp2 (fun g' hg' => hW.block g' (hp2.lt g' hg').2)) hi u (f', d') (by rw [HPS.out]; exact hc) (hso _ _ hs)
              have hl2 : ((ps.set m (f', d')).map (·.1)).length = gs.length := by simp [hnp]
              refine ⟨kd, lv, some ⟨g, 0, none⟩, vc, (ps.set m (f', d')).map (·.1), ?_, ?_, by omega, Lib.hid (HFM.out f' d' hl)⟩
              · rw [hl2]; exact (HH7.out.keep hW).put g _ hgB u
              · rw [hl2]; exact hr
            have HGS : Hid (∀ (kd' lv' : UInt8) (W : World), SpHd (w.heap.size + 2) w0 W kd' lv' (.slice (some ⟨g, 0, none⟩) gs.length vc) → (∀ k, w.heap.size + 2 + 2 ≤ k → k < w7.heap.size → W.heap[k]? = w7.heap[k]?) → w7.heap.size ≤ W.heap.size → SpFin (N + 1100) (M + 10100) (w.heap.size + 2) w0 W) :=
              fun kd' lv' W hh hk hz => ⟨kd', lv', _, vc, gs, hh, HO7.out.toRec.far hk hz, by omega, fun f hf => by have := HGM.out f hf; omega⟩
            have hgn' : g ≠ gd := fun e => hqn (by rw [e]; rfl)
            have hgdl := hqo.lt gd hqg
            have HSUB := Lib.hid (owns_off (g := some g) hqo (fun k hk e => by rw [hqg] at hk; injection hk with hk; subst hk; exact hqn e))
            have HAPP : Hid (∀ (s : SubD) (v' : Value) (w9 W : World), Below w7.heap.size w7 W → s.text.length ≤ 10 → w9.ownsRow (w.heap.size + 2 + 2) 59 2 v' (f.subs.length + 1) (f.subs.flatMap subCells ++ subCells s) → W.grownBy w9 (some gd) → (v'.ownBlock = some gd ∨ v'.ownBlock = some W.heap.size) →
                SpFin (N + 1100) (M + 10100) (w.heap.size + 2) w0 (w9.setCell ⟨g, m * 4 + 3, none⟩ v') ∧ w9.cell? ⟨g, m * 4 + 3, none⟩ = some (.slice da f.subs.length dc) ∧ w9.frozen? ⟨g, m * 4 + 3, none⟩ = false) := by
              intro s v' w9 W hW hsl hown hgw hat
              have hz := hW.size
              have hk9 : ∀ k, k < w7.heap.size → k ≠ gd → w9.heap[k]? = w7.heap[k]? := fun k hk hne => by rw [hgw.block k (by omega) (by intro e; injection e with e; exact hne e), hW.block k hk]
              have hpw := List.pairwise_iff_getElem.1 hp4
              have hr := RecOwn.put (w := w9) ps hnp m 3 hmp (fun k hk hne => ?_) (ownr_far hp2 (fun g' hg' => ?_)) (by omega) v' ({ f with subs := f.subs ++ [s] }, v') (by rw [HPS.out]; rfl) ?_
              · have hl2 : ((ps.set m ({ f with subs := f.subs ++ [s] }, v')).map (·.1)).length = gs.length := by simp [hnp]
                have h9 : w9.cell? ⟨g, m * 4 + 3, none⟩ = w7.cell? ⟨g, m * 4 + 3, none⟩ := World.cell?_of_block (hk9 g hglt7 hgn')
                have f9 : w9.frozen? ⟨g, m * 4 + 3, none⟩ = w7.frozen? ⟨g, m * 4 + 3, none⟩ := World.frozen?_of_block (hk9 g hglt7 hgn')
                refine ⟨⟨kd, lv, some ⟨g, 0, none⟩, vc, (ps.set m ({ f with subs := f.subs ++ [s] }, v')).map (·.1), ?_, ?_, by omega, Lib.hid (HFM.out _ _ ?_)⟩, by rw [h9]; exact t3, by rw [f9]; exact tf _⟩
                · rw [hl2]; exact ((HH7.out.keep hW).grown hgw (fun k hk => by injection hk with hk; subst hk; exact hgdl.1)).put g _ hgB v'
                · rw [hl2]; exact hr
                · have e1 := bytes_parts f
                  have e2 := bytes_parts { f with subs := f.subs ++ [s] }
                  simp only [List.flatMap_append, List.length_append, List.flatMap_cons, List.flatMap_nil, List.append_nil, subBytes, List.length_cons] at e1 e2
                  omega
              · obtain ⟨hko, g2, hk1, hk2⟩ := hp3 _ (List.getElem_mem hk)
                have hne2 : ps[k].2.ownBlock ≠ ps[m].2.ownBlock := by
                  rcases Nat.lt_or_gt_of_ne hne with h | h
                  · exact hpw k m hk hmp h
                  · exact (hpw m k hmp hk h).symm
                rw [HPS.out, hqg, hk1] at hne2
                refine owns_off (ownr_far hko (fun g' hg' => ?_)) (fun k' hk' e => ?_)
                · rw [hk1] at hg'; injection hg' with hg'; subst hg'
                  exact hk9 _ (hko.lt _ hk1).2 (fun e => hne2 (by rw [e]))
                · rw [hk1] at hk'; injection hk' with hk'; subst hk'
                  exact hk2 e
              · have : g' = g := by simpa [Value.ownBlock] using hg'.symm
                subst this
                exact hk9 _ hglt7 hgn'
              · refine owns_off (by simpa [List.flatMap_append] using hown) (fun k hk e => ?_)
                injection e with e
                subst e
                rcases hat with hat | hat
                · rw [hat] at hk; injection hk with hk; exact hgn' hk.symm
                · rw [hat] at hk; injection hk with hk; omega
            have HQO := Lib.hid hqo
            have HP1 := Lib.hid hp1
            have HP2 := Lib.hid hp2
            have HP3 := Lib.hid hp3
            have HP4 := Lib.hid hp4
            have HNP := Lib.hid hnp
            clear hq hqo hp1 hp2 hp3 hp4 hfe hde HFM HSO hnp
            have c0 := HH7.out.c0
            have c1 := HH7.out.c1
            have c2 := HH7.out.c2
            have x0 := HH7.out.x0
            have x1 := HH7.out.x1
            have x2 := HH7.out.x2
            have hbig := HH7.out.big
            go_upto_block 2 with (go_at_call 21; ((with_reducible refine Calls.mono (mod_at q0 10 (by decide) (by decide) _) ?_); rintro e w' ⟨c, hc10, rfl, rfl⟩))
            go_cut [] (fun wx => SpFin (N + 1100) (M + 10100) (w.heap.size + 2) w0 wx)
            case first =>
              have hcs : c = 0 ∨ c = 1 ∨ c = 2 ∨ c = 3 ∨ c = 4 ∨ c = 5 ∨ c = 6 ∨ c = 7 ∨ c = 8 ∨ c = 9 := by omega
              rcases hcs with rfl | rfl | rfl | rfl | rfl | rfl | rfl | rfl | rfl | rfl
              · obtain ⟨c, hc⟩ := u8_of q2
                go_wp2_with fail
                go_meet
                exact HGS.out c lv _ (HH7.out.set0 c) (fun k hk _ => Below.heap_setCell _ _ _ _ (by simp; omega)) (by simp)
              · obtain ⟨c, hc⟩ := u8_of q2
                go_wp2_with fail
                go_meet
                exact HGS.out kd c _ (HH7.out.set1 c) (fun k hk _ => Below.heap_setCell _ _ _ _ (by simp; omega)) (by simp)
              · have HT7 : Hid (∀ k, k < 7 → ∃ x : Bs, (w7.alloc tags7O).cell? ⟨w7.heap.size, k, none⟩ = some (S x) ∧ x.length ≤ 10) := fun k hk => tags7_at w7 k hk
                have hg1 : (w7.alloc tags7O).cell? ⟨g, m * 4, none⟩ = some (S f.tag) := by rw [alloc_old _ _ _ _ hglt7]; exact t0
                have hg2 : (w7.alloc tags7O).frozen? ⟨g, m * 4, none⟩ = false := by rw [World.frozen?_of_block (w := w7) (Below.heap_alloc _ _ _ hglt7)]; exact tf _
                have hg3 : Below w7.heap.size w7 (w7.alloc tags7O) := alloc_below1 _ _
                have hg4 : (w7.alloc tags7O).cell? ⟨w.heap.size + 1, 2, none⟩ = some (.int .i64 q2) := by rw [alloc_old _ _ _ _ (by omega)]; exact bq2
                go_wp2_with fail
                generalize (w7.alloc tags7O) = w8 at *
                ((with_reducible refine Calls.mono (mod_at q2 7 (by decide) (by decide) _) ?_); rintro e w' ⟨k7, hk7, rfl, rfl⟩; obtain ⟨I, hI, hIl⟩ := HT7.out k7 hk7)
                go_wp2_with fail
                go_meet
                exact HPUT.out 0 (S I) { f with tag := I } (.slice da f.subs.length dc) (by omega) rfl HSUB.out (by show (fieldBytes f).length ≤ _; omega) _ hg3
              · have e1 := bytes_parts f
                have hq1 : ¬ 9223372036854775807 < f.data.length + T.length := by omega
                have tf2 := tf (m * 4 + 2)
                go_wp2_with fail
                go_meet
                exact HPUT.out 2 (S (f.data ++ T)) { f with data := f.data ++ T } (.slice da f.subs.length dc) (by omega) rfl HSUB.out (by have e2 := bytes_parts { f with data := f.data ++ T }; simp only [List.length_append] at e2; omega) _ (Below.refl _ _)
              · have HT6 : Hid (∀ k, k < 6 → ∃ x : Bs, (w7.alloc inds6O).cell? ⟨w7.heap.size, k, none⟩ = some (S x) ∧ x.length ≤ 10) := fun k hk => inds6_at w7 k hk
                have hg1 : (w7.alloc inds6O).cell? ⟨g, m * 4 + 1, none⟩ = some (S f.ind) := by rw [alloc_old _ _ _ _ hglt7]; exact t1
                have hg2 : (w7.alloc inds6O).frozen? ⟨g, m * 4 + 1, none⟩ = false := by rw [World.frozen?_of_block (w := w7) (Below.heap_alloc _ _ _ hglt7)]; exact tf _
                have hg3 : Below w7.heap.size w7 (w7.alloc inds6O) := alloc_below1 _ _
                have hg4 : (w7.alloc inds6O).cell? ⟨w.heap.size + 1, 2, none⟩ = some (.int .i64 q2) := by rw [alloc_old _ _ _ _ (by omega)]; exact bq2
                go_wp2_with fail
                generalize (w7.alloc inds6O) = w8 at *
                ((with_reducible refine Calls.mono (mod_at q2 6 (by decide) (by decide) _) ?_); rintro e w' ⟨k6, hk6, rfl, rfl⟩; obtain ⟨I, hI, hIl⟩ := HT6.out k6 hk6)
                go_wp2_with fail
                go_meet
                exact HPUT.out 1 (S I) { f with ind := I } (.slice da f.subs.length dc) (by omega) rfl HSUB.out (by have e1 := bytes_parts f; have e2 := bytes_parts { f with ind := I }; simp only at e2; omega) _ hg3
              · have tf3 := tf (m * 4 + 3)
                go_wp2_with fail
                go_meet
                exact HPUT.out 3 (.slice none 0 0) { f with subs := [] } (.slice none 0 0) (by omega) rfl ⟨none, 0, rfl, fun h => absurd rfl h⟩ (by have e1 := bytes_parts f; have e2 := bytes_parts { f with subs := [] }; simp only [List.flatMap_nil, List.length_nil] at e2; omega) _ (Below.refl _ _)
              · obtain ⟨cc, hcc⟩ := u8_wrap q1
                have HCC := Lib.hid hcc
                clear hcc
                obtain ⟨i0, hi, hi0, hi1, hi2⟩ := info_parts i59'
                have HI := Lib.hid hi
                have HI0 := Lib.hid hi0
                have HI1 := Lib.hid hi1
                have HI2 := Lib.hid hi2
                clear hi hi0 hi1 hi2
                have hsl := subs_le f
                have HS : Hid (∀ W, Below w7.heap.size w7 W → (fun w' : World => w'.cell? ⟨g, m * 4 + 3, none⟩ = some (.slice da f.subs.length dc) ∧ w'.cell? ⟨w.heap.size + 1, 1, none⟩ = some (.int .i64 q1)) W) := fun W hW => ⟨by rw [hW.cell (p := ⟨g, _, none⟩) hglt7]; exact t3, by rw [hW.cell (p := ⟨w.heap.size + 1, _, none⟩) (by simp; omega)]; exact bq1⟩
                have HB0' : Hid (Below w7.heap.size w7 w7.drew) := (Below.refl _ w7).drew
                have HBA : Hid (Below w7.heap.size w7 (w7.alloc (Obj.cells #[.int .u8 (IntKind.u8.wrap q1), S T] 59)).drew) := (alloc_below1 _ _).drew
                go_wp2_with fail
                refine wp_region_T (fun w' : World => w'.cell? ⟨g, m * 4 + 3, none⟩ = some (.slice da f.subs.length dc) ∧ w'.cell? ⟨w.heap.size + 1, 1, none⟩ = some (.int .i64 q1)) 14 (by kernel_rfl) ?_
                refine anyT_take (i := 0) (v := ?_) rfl (by kernel_rfl) (by kernel_rfl) (by kernel_rfl) (by kernel_rfl) (by decide) (fun _ _ _ h => h) (HS.out _ HB0'.out) (Or.inl ⟨by rfl, ?_⟩) ?_
                rotate_left
                · intro w' h; obtain ⟨h0, h1⟩ := h; go_simp; (first | done | rfl)
                (try simp only [Act.put, List.setIfInBounds_toArray, List.set_cons_zero, List.set_cons_succ])
                refine anyT_take (i := 1) (v := ?_) rfl (by kernel_rfl) (by kernel_rfl) (by kernel_rfl) (by kernel_rfl) (by decide) (fun _ _ _ h => h) (HS.out _ HB0'.out) (Or.inl ⟨by rfl, ?_⟩) ?_
                rotate_left
                · intro w' h; obtain ⟨h0, h1⟩ := h; go_simp; (first | done | rfl)
                (try simp only [Act.put, List.setIfInBounds_toArray, List.set_cons_zero, List.set_cons_succ])
                refine anyT_take (i := 2) (v := ?_) rfl (by kernel_rfl) (by kernel_rfl) (by kernel_rfl) (by kernel_rfl) (by decide) (fun _ _ _ h => h) (HS.out _ HB0'.out) (Or.inl ⟨by rfl, ?_⟩) ?_
                rotate_left
                · intro w' h; obtain ⟨h0, h1⟩ := h; go_simp; (first | done | rfl)
                (try simp only [Act.put, List.setIfInBounds_toArray, List.set_cons_zero, List.set_cons_succ])
                refine anyT_take (i := 3) (v := ?_) rfl (by kernel_rfl) (by kernel_rfl) (by kernel_rfl) (by kernel_rfl) (by decide) (fun _ _ _ h => h) (HS.out _ HB0'.out) (Or.inl ⟨by rfl, ?_⟩) ?_
                rotate_left
                · intro w' h; obtain ⟨h0, h1⟩ := h; go_simp; (first | done | rfl)
                (try simp only [Act.put, List.setIfInBounds_toArray, List.set_cons_zero, List.set_cons_succ])
                refine anyT_take (i := 4) (v := ?_) rfl (by kernel_rfl) (by kernel_rfl) (by kernel_rfl) (by kernel_rfl) (by decide) (fun _ _ _ h => h) (HS.out _ HB0'.out) (Or.inl ⟨by rfl, ?_⟩) ?_
                rotate_left
                · intro w' h; obtain ⟨h0, h1⟩ := h; go_simp; (first | done | rfl)
                (try simp only [Act.put, List.setIfInBounds_toArray, List.set_cons_zero, List.set_cons_succ])
                refine anyT_take (i := 5) (v := ?_) rfl (by kernel_rfl) (by kernel_rfl) (by kernel_rfl) (by kernel_rfl) (by decide) (fun _ _ _ h => h) (HS.out _ HB0'.out) (Or.inl ⟨by rfl, ?_⟩) ?_
                rotate_left
                · intro w' h; obtain ⟨h0, h1⟩ := h; go_simp; (first | done | rfl)
                (try simp only [Act.put, List.setIfInBounds_toArray, List.set_cons_zero, List.set_cons_succ])
                refine anyT_take (i := 6) (v := ?_) rfl (by kernel_rfl) (by kernel_rfl) (by kernel_rfl) (by kernel_rfl) (by decide) (fun _ _ _ h => h) (HS.out _ HB0'.out) (Or.inl ⟨by rfl, ?_⟩) ?_
                rotate_left
                · intro w' h; obtain ⟨h0, h1⟩ := h; go_simp; (first | done | rfl)
                (try simp only [Act.put, List.setIfInBounds_toArray, List.set_cons_zero, List.set_cons_succ])
                refine anyT_take (i := 7) (v := ?_) rfl (by kernel_rfl) (by kernel_rfl) (by kernel_rfl) (by kernel_rfl) (by decide) (fun _ _ _ h => h) (HS.out _ HB0'.out) (Or.inl ⟨by rfl, ?_⟩) ?_
                rotate_left
                · intro w' h; obtain ⟨h0, h1⟩ := h; go_simp; (first | done | rfl)
                (try simp only [Act.put, List.setIfInBounds_toArray, List.set_cons_zero, List.set_cons_succ])
                refine anyT_take (i := 8) (v := ?_) rfl (by kernel_rfl) (by kernel_rfl) (by kernel_rfl) (by kernel_rfl) (by decide) (fun _ _ _ h => h) (HS.out _ HB0'.out) (Or.inl ⟨by rfl, ?_⟩) ?_
                rotate_left
                · intro w' h; obtain ⟨h0, h1⟩ := h; go_simp; (first | done | rfl)
                (try simp only [Act.put, List.setIfInBounds_toArray, List.set_cons_zero, List.set_cons_succ])
                refine anyT_take (i := 9) (v := ?_) rfl (by kernel_rfl) (by kernel_rfl) (by kernel_rfl) (by kernel_rfl) (by decide) (fun _ _ _ h => h) (HS.out _ HB0'.out) (Or.inl ⟨by rfl, ?_⟩) ?_
                rotate_left
                · intro w' h; obtain ⟨h0, h1⟩ := h; go_simp; (first | done | rfl)
                (try simp only [Act.put, List.setIfInBounds_toArray, List.set_cons_zero, List.set_cons_succ])
                refine anyT_do (i := 10) rfl (by kernel_rfl) rfl (fun K hK => ?_)
                go_simp
                refine hK _ _ (fun _ => HS.out _ HBA.out) ?_
                clear hK K
                refine anyT_do (i := 11) rfl (by kernel_rfl) rfl (fun K hK => ?_)
                refine wp_append_lies _ _ _ 55 rfl (w.heap.size + 2 + 2) 59 i0 (.agg #[.int .u8 0, .string ⟨#[]⟩]) 2 24 Tryd.underlying55 HI.out HI0.out HI1.out HI2.out rfl (by omega) (.slice da f.subs.length dc) f.subs.length _ (by rfl) (ownr_far HQO.out (fun g' hg' => HBA.out.block g' (HQO.out.lt g' hg').2)) ⟨w7.heap.size, 0, none⟩ 1 1 [.int .u8 (IntKind.u8.wrap q1), S T] (by rfl) rfl (cell_two_new' w7 _ _ _) (by simp [Value.oneCell']) (by omega) (by unfold maxLen; omega) (by omega) (by simp; omega) _ rfl ?_
                intro g9 cap9 w9 hown9 hgw hlie hlt9
                rw [HCC.out] at hown9
                obtain ⟨hfin, e9, f9⟩ := HAPP.out ⟨cc, T⟩ _ w9 _ HBA.out hTl hown9 (by rw [← hqg]; exact hgw) (hlie.elim (fun h => .inl (h.symm.trans hqg)) (fun h => .inr (congrArg some h)))
                have e9q : w9.cell? ⟨w.heap.size + 1, 1, none⟩ = some (.int .i64 q1) := by rw [World.cell?_of_block (w := (w7.alloc (Obj.cells #[.int .u8 (IntKind.u8.wrap q1), S T] 59)).drew) (hgw.block _ (by simp; omega) (by rw [hqg]; intro e; injection e with e; simp at e; omega))]; exact (HS.out _ HBA.out).2
                have HFIN := Lib.hid hfin
                clear hown9 hgw hfin
                refine hK _ _ (fun _ => ⟨e9, e9q⟩) ?_
                clear hK K
                refine anyT_do (i := 12) rfl (by kernel_rfl) rfl (fun K hK => ?_)
                go_simp
                refine hK _ _ (fun _ => ⟨e9, e9q⟩) ?_
                clear hK K
                refine anyT_do (i := 13) rfl (by kernel_rfl) rfl (fun K hK => ?_)
                go_simp
                refine hK _ _ (fun _ => ⟨e9, e9q⟩) ?_
                clear hK K
                refine anyT_do (i := 14) rfl (by kernel_rfl) rfl (fun K hK => ?_)
                go_simp
                refine hK _ _ (fun h => absurd rfl h) ?_
                clear hK K
                refine anyT_done (by kernel_rfl) ?_ _
                go_wp2_with fail
                go_meet
                exact HFIN.out
              · obtain ⟨i0, hi, hi0, hi1, hi2⟩ := info_parts i59'
                have HI := Lib.hid hi
                have HI0 := Lib.hid hi0
                have HI1 := Lib.hid hi1
                have HI2 := Lib.hid hi2
                clear hi hi0 hi1 hi2
                have hsl := subs_le f
                go_wp2_with (at_builtin; refine wpList_append_own_at _ rfl _ _ 55 rfl (w.heap.size + 2 + 2) 59 i0 (.agg #[.int .u8 0, .string ⟨#[]⟩]) 2 24 Tryd.underlying55 HI.out HI0.out HI1.out HI2.out rfl (by omega) (.slice da f.subs.length dc) f.subs.length _ rfl (HQO.out.alloc _) ⟨w7.heap.size, 0, none⟩ 1 1 [.int .u8 122, S T] rfl rfl (cell_two_new' _ _ _ _) (by simp [Value.oneCell']) (by unfold maxLen; omega) (by omega) (by simp; omega) ?_; intro v' w9 hown9 hgw _ hat; obtain ⟨va', vc', rfl⟩ := owns_shape hown9; obtain ⟨hfin, g9, f9⟩ := HAPP.out ⟨122, T⟩ _ w9 _ (alloc_below1 w7 _) hTl hown9 (by rw [← hqg]; exact hgw) (by rw [← hqg]; exact hat); have HFIN := Lib.hid hfin; clear hown9 hgw hat hfin)
                go_meet
                exact HFIN.out
              · obtain ⟨i0, hi, hi0, hi1, hi2⟩ := info_parts i57'
                have HI := Lib.hid hi
                have HI0 := Lib.hid hi0
                have HI1 := Lib.hid hi1
                have HI2 := Lib.hid hi2
                clear hi hi0 hi1 hi2
                have HS : Hid (∀ W, Below w7.heap.size w7 W → (fun w' : World => w'.cell? ⟨w.heap.size + 2 + 1, 2, none⟩ = some (.slice (some ⟨g, 0, none⟩) gs.length vc) ∧ w'.cell? ⟨w.heap.size + 1, 2, none⟩ = some (.int .i64 q2)) W) := fun W hW => ⟨by rw [hW.cell (p := ⟨w.heap.size + 2 + 1, _, none⟩) (by simp; omega)]; exact c2, by rw [hW.cell (p := ⟨w.heap.size + 1, _, none⟩) (by simp; omega)]; exact bq2⟩
                have HB0' : Hid (Below w7.heap.size w7 w7.drew) := (Below.refl _ w7).drew
                go_wp2_with fail
                refine wp_region_T (fun w' : World => w'.cell? ⟨w.heap.size + 2 + 1, 2, none⟩ = some (.slice (some ⟨g, 0, none⟩) gs.length vc) ∧ w'.cell? ⟨w.heap.size + 1, 2, none⟩ = some (.int .i64 q2)) 14 (by kernel_rfl) ?_
                refine anyT_take (i := 0) (v := ?_) rfl (by kernel_rfl) (by kernel_rfl) (by kernel_rfl) (by kernel_rfl) (by decide) (fun _ _ _ h => h) (HS.out _ HB0'.out) (Or.inl ⟨by rfl, ?_⟩) ?_
                rotate_left
                · intro w' h; obtain ⟨h0, h1⟩ := h; go_simp; (first | done | rfl)
                (try simp only [Act.put, List.setIfInBounds_toArray, List.set_cons_zero, List.set_cons_succ])
                refine anyT_take (i := 1) (v := ?_) rfl (by kernel_rfl) (by kernel_rfl) (by kernel_rfl) (by kernel_rfl) (by decide) (fun _ _ _ h => h) (HS.out _ HB0'.out) (Or.inl ⟨by rfl, ?_⟩) ?_
                rotate_left
                · intro w' h; obtain ⟨h0, h1⟩ := h; go_simp; (first | done | rfl)
                (try simp only [Act.put, List.setIfInBounds_toArray, List.set_cons_zero, List.set_cons_succ])
                refine anyT_take (i := 2) (v := ?_) rfl (by kernel_rfl) (by kernel_rfl) (by kernel_rfl) (by kernel_rfl) (by decide) (fun _ _ _ h => h) (HS.out _ HB0'.out) (Or.inl ⟨by rfl, ?_⟩) ?_
                rotate_left
                · intro w' h; obtain ⟨h0, h1⟩ := h; go_simp; (first | done | rfl)
                (try simp only [Act.put, List.setIfInBounds_toArray, List.set_cons_zero, List.set_cons_succ])
                refine anyT_take (i := 3) (v := ?_) rfl (by kernel_rfl) (by kernel_rfl) (by kernel_rfl) (by kernel_rfl) (by decide) (fun _ _ _ h => h) (HS.out _ HB0'.out) (Or.inl ⟨by rfl, ?_⟩) ?_
                rotate_left
                · intro w' h; obtain ⟨h0, h1⟩ := h; go_simp; (first | done | rfl)
                (try simp only [Act.put, List.setIfInBounds_toArray, List.set_cons_zero, List.set_cons_succ])
                refine anyT_do (i := 4) rfl (by kernel_rfl) rfl (fun K hK => ?_)
                go_simp
                (go_at_call 21; ((with_reducible refine Calls.mono (mod_at q2 12 (by decide) (by decide) _) ?_); rintro e w' ⟨k12, hk12, rfl, rfl⟩))
                obtain ⟨NN, hNN⟩ : ∃ NN : Nat, NN = 9990 + k12 := ⟨_, rfl⟩
                have e5 : IntKind.i64.wrap (9990 + (k12 : Int)) = NN := by rw [IntWalk.i64_in _ (by omega)]; omega
                have hNl : NN ≤ 10010 := by omega
                clear hNN
                refine hK _ _ (fun _ => HS.out _ HB0'.out) ?_
                clear hK K
                refine anyT_take (i := 5) (v := ?_) rfl (by kernel_rfl) (by kernel_rfl) (by kernel_rfl) (by kernel_rfl) (by decide) (fun _ _ _ h => h) (HS.out _ HB0'.out) (Or.inl ⟨by rfl, ?_⟩) ?_
                rotate_left
                · intro w' h; obtain ⟨h0, h1⟩ := h; go_simp; (first | done | rfl)
                (try simp only [Act.put, List.setIfInBounds_toArray, List.set_cons_zero, List.set_cons_succ])
                refine anyT_do (i := 6) rfl (by kernel_rfl) rfl (fun K hK => ?_)
                go_simp
                (go_at_call 33; ((with_reducible refine Calls.mono (long_33 NN _ (by omega)) ?_); rintro e w8 ⟨cp8, rfl, hb8, hz8, hB8⟩))
                have hcv : (convert 40 9 (.slice (some ⟨w7.heap.size, 0, none⟩) NN cp8)).run Tryd.prog w8 = .ok (S (List.replicate NN 108)) w8 := ell_conv hB8 cp8
                have HB8 := Lib.hid (btr HB0'.out hb8 (Nat.le_refl _))
                have hz8' : w7.heap.size < w8.heap.size := hz8
                clear hB8 hb8
                refine hK _ _ (fun _ => HS.out _ HB8.out) ?_
                clear hK K
                refine anyT_do (i := 7) rfl (by kernel_rfl) rfl (fun K hK => ?_)
                go_simp
                refine hK _ _ (fun _ => HS.out _ HB8.out) ?_
                clear hK K
                refine anyT_take (i := 8) (v := ?_) rfl (by kernel_rfl) (by kernel_rfl) (by kernel_rfl) (by kernel_rfl) (by decide) (fun _ _ _ h => h) (HS.out _ HB8.out) (Or.inl ⟨by rfl, ?_⟩) ?_
                rotate_left
                · intro w' h; obtain ⟨h0, h1⟩ := h; go_simp; (first | done | rfl)
                (try simp only [Act.put, List.setIfInBounds_toArray, List.set_cons_zero, List.set_cons_succ])
                have HB9 : Hid (Below w7.heap.size w7 (w8.alloc (Obj.cells #[.int .u8 97, S (List.replicate NN 108)] 59))) := HB8.out.alloc HB8.out.size _
                refine anyT_do (i := 9) rfl (by kernel_rfl) rfl (fun K hK => ?_)
                go_simp
                refine hK _ _ (fun _ => HS.out _ HB9.out) ?_
                clear hK K
                refine anyT_take (i := 10) (v := ?_) rfl (by kernel_rfl) (by kernel_rfl) (by kernel_rfl) (by kernel_rfl) (by decide) (fun _ _ _ h => h) (HS.out _ HB9.out) (Or.inl ⟨by rfl, ?_⟩) ?_
                rotate_left
                · intro w' h; obtain ⟨h0, h1⟩ := h; go_simp; (first | done | rfl)
                (try simp only [Act.put, List.setIfInBounds_toArray, List.set_cons_zero, List.set_cons_succ])
                have HBB : Hid (Below w7.heap.size w7 ((w8.alloc (Obj.cells #[.int .u8 97, S (List.replicate NN 108)] 59)).alloc (Obj.cells #[S [53, 48, 48], S [32, 32], S [], .slice (some ⟨w8.heap.size, 0, none⟩) 1 1] 57))) := HB9.out.alloc HB9.out.size _
                refine anyT_do (i := 11) rfl (by kernel_rfl) rfl (fun K hK => ?_)
                go_simp
                refine hK _ _ (fun _ => HS.out _ HBB.out) ?_
                clear hK K
                have hro := HO7.out.toRec.far (w' := w8.alloc (Obj.cells #[.int .u8 97, S (List.replicate NN 108)] 59)) (fun k _ hk => HB9.out.block k hk) HB9.out.size
                obtain ⟨rs, hr1, hr2, hr3⟩ := hro.ex
                have HR1 := Lib.hid hr1
                have HR2 := Lib.hid hr2
                have HR3 := Lib.hid hr3
                clear hro hr1 hr2 hr3
                refine anyT_do (i := 12) rfl (by kernel_rfl) rfl (fun K hK => ?_)
                refine wp_append_lies _ _ _ 25 rfl (w.heap.size + 2 + 2) 57 i0 (.agg #[.string ⟨#[]⟩, .string ⟨#[]⟩, .string ⟨#[]⟩, .slice none 0 0]) 4 72 Tryd.underlying25 HI.out HI0.out HI1.out HI2.out rfl (by omega) (.slice (some ⟨g, 0, none⟩) gs.length vc) gs.length _ (by rfl) (HR3.out.alloc _) ⟨w8.heap.size + 1, 0, none⟩ 1 1 [S [53, 48, 48], S [32, 32], S [], .slice (some ⟨w8.heap.size, 0, none⟩) 1 1] (by rfl) rfl (by have := cell_four_new' (w8.alloc (Obj.cells #[.int .u8 97, S (List.replicate NN 108)] 59)) (S [53, 48, 48]) (S [32, 32]) (S []) (.slice (some ⟨w8.heap.size, 0, none⟩) 1 1) 57; simpa using this) (by simp [Value.oneCell']) (by omega) (by unfold maxLen; omega) (by omega) (by simp; omega) _ rfl ?_
                intro g9 cap9 w9 hown9 hgw hlie hlt9
                have hfin := rc_app (v' := .slice (some ⟨g9, 0, none⟩) (gs.length + 1) cap9) (Obj.cells #[S [53, 48, 48], S [32, 32], S [], .slice (some ⟨w8.heap.size, 0, none⟩) 1 1] 57) ⟨[53, 48, 48], [32, 32], [], [⟨97, List.replicate NN 108⟩]⟩ (.slice (some ⟨w8.heap.size, 0, none⟩) 1 1) (HH7.out.keep HB9.out) rs HR1.out HR2.out HR3.out (ell_off w8 _ (by omega) (by simp [Value.ownBlock]; omega)) hown9 hgw (hlie.elim (fun h => .inl h.symm) (fun h => .inr (congrArg some h)))
                have HFIN := Lib.hid hfin
                obtain ⟨e9, f9⟩ := sp_far (HH7.out.keep HB9.out) hgw (fun k hk => by injection hk with hk; subst hk; exact hgB)
                have e9q : w9.cell? ⟨w.heap.size + 1, 2, none⟩ = some (.int .i64 q2) := by rw [World.cell?_of_block (w := ((w8.alloc (Obj.cells #[.int .u8 97, S (List.replicate NN 108)] 59)).alloc (Obj.cells #[S [53, 48, 48], S [32, 32], S [], .slice (some ⟨w8.heap.size, 0, none⟩) 1 1] 57))) (hgw.block _ (by simp; omega) (by intro e; simp [Value.ownBlock] at e; omega))]; exact (HS.out _ HBB.out).2
                clear hown9 hgw hfin hcv
                refine hK _ _ (fun _ => ⟨e9, e9q⟩) ?_
                clear hK K
                refine anyT_do (i := 13) rfl (by kernel_rfl) rfl (fun K hK => ?_)
                go_simp
                refine hK _ _ (fun _ => ⟨e9, e9q⟩) ?_
                clear hK K
                refine anyT_do (i := 14) rfl (by kernel_rfl) rfl (fun K hK => ?_)
                go_simp
                refine hK _ _ (fun h => absurd rfl h) ?_
                clear hK K
                refine anyT_done (by kernel_rfl) ?_ _
                go_wp2_with fail
                go_meet
                refine ⟨kd, lv, some ⟨g9, 0, none⟩, cap9, gs ++ [⟨[53, 48, 48], [32, 32], [], [⟨97, List.replicate NN 108⟩]⟩], ?_, ?_, by simp; omega, ?_⟩
                · simpa [Hid] using HFIN.out.1
                · simpa [Hid] using HFIN.out.2
                · intro q hq
                  rcases List.mem_append.1 hq with hq | hq
                  · have := HGM.out q hq; omega
                  · simp at hq; subst hq; simp [fieldBytes, subBytes]; omega
              · have H3 : Hid (∃ m3 : Nat, m3 < 20 ∧ ∀ W, Calls Tryd.prog 21 #[.int .i64 q2, .int .i64 20] W fun e w' => e = .returned (.int .i64 m3) ∧ W = w') := by
                  have g3 : 0 ≤ q2.emod 20 := Int.emod_nonneg q2 (by omega)
                  have g4 : q2.emod 20 < 20 := Int.emod_lt_of_pos q2 (by omega)
                  exact ⟨(q2.emod 20).toNat, by omega, fun W => by rw [Int.toNat_of_nonneg g3]; exact mod_21 q2 20 W (by omega) (by omega)⟩
                obtain ⟨m3, hm3, hc3⟩ := H3.out
                have HC3 := Lib.hid hc3
                clear hc3 H3
                have HRC := Lib.hid HO7.out.toRec
                go_wp2_with fail
                clear bq0 bq1 bq2 b2 c0 c1 c2 x0 x1 x2 t0 t1 t2 t3
                go_loopw [11] (fun i wx => ∃ (k : Nat) (hs : List FieldD) (va : Option Addr) (vc : Nat), i = .int .i64 k ∧ k ≤ 990 + m3 ∧ Hid (hs.length = gs.length + k) ∧ hs.length ≤ 6010 ∧ Hid (SpHd (w.heap.size + 2) w0 wx kd lv (.slice va hs.length vc)) ∧ Hid (RecOwn (w.heap.size + 2 + 2) wx (.slice va hs.length vc) hs) ∧ Hid (∀ f ∈ hs, (fieldBytes f).length ≤ M + 10100)) (fun i _ => 990 + m3 - (intOf i).toNat)
                case atStart => exact ⟨0, gs, _, vc, rfl, by omega, rfl, by omega, HH7, HRC, fun f hf => by have := HGM.out f hf; omega⟩
                case round =>
                  obtain ⟨k, hs, va2, vc2, rfl, hk, HLN, hhl, HHK, HRK, HMK⟩ := hrel
                  obtain ⟨b2, bq0, bq1, bq2⟩ := HQ.out wr HHK.out.below
                  have e5 : IntKind.i64.wrap (990 + (m3 : Int)) = 990 + m3 := IntWalk.i64_in _ (by omega)
                  have d2 := HHK.out.c2
                  have dx := HHK.out.x2
                  have hbg := HHK.out.big
                  by_cases hlt : k < 990 + m3
                  · have hlti : (k : Int) < 990 + m3 := by omega
                    obtain ⟨i0, hi, hi0, hi1, hi2⟩ := info_parts i57'
                    have HI := Lib.hid hi
                    have HI0 := Lib.hid hi0
                    have HI1 := Lib.hid hi1
                    have HI2 := Lib.hid hi2
                    clear hi hi0 hi1 hi2
                    obtain ⟨rs, hr1, hr2, hr3⟩ := HRK.out.ex
                    have HR1 := Lib.hid hr1
                    have HR2 := Lib.hid hr2
                    have HR3 := Lib.hid hr3
                    have hgl2 : hs.length ≤ 6010 := hhl
                    clear hr1 hr2 hr3
                    go_wp2_with (first
                      | (go_at_call 21; ((with_reducible refine Calls.mono (HC3.out _) ?_); rintro e w' ⟨rfl, rfl⟩))
                      | (at_builtin; refine wpList_append_own_at _ rfl _ _ 25 rfl (w.heap.size + 2 + 2) 57 i0 (.agg #[.string ⟨#[]⟩, .string ⟨#[]⟩, .string ⟨#[]⟩, .slice none 0 0]) 4 72 Tryd.underlying25 HI.out HI0.out HI1.out HI2.out rfl (by omega) (.slice va2 hs.length vc2) hs.length _ rfl (HR3.out.alloc _) ⟨wr.heap.size, 0, none⟩ 1 1 [S [48, 48, 51], S [], S [100], .slice none 0 0] rfl rfl (cell_four_new' _ _ _ _ _ _) (by simp [Value.oneCell']) (by unfold maxLen; omega) (by omega) (by simp; omega) ?_; intro v' w8 hown8 hgw _ hat; obtain ⟨va', vc', rfl⟩ := owns_shape hown8; have HO8 := Lib.hid hown8; have HG8 := Lib.hid hgw; have HAT := Lib.hid hat; obtain ⟨e8, f8⟩ := sp_far HHK.out hgw (fun k hk => (HR3.out.lt k hk).1); clear hown8 hgw hat))
                    go_roundw
                    case rel =>
                      (repeat apply Exists.intro)
                      refine ⟨?_, rfl⟩
                      have := rc_app _ ⟨[48, 48, 51], [], [100], []⟩ (.slice none 0 0) HHK.out rs HR1.out HR2.out HR3.out ⟨none, 0, rfl, fun h => absurd rfl h⟩ HO8.out HG8.out HAT.out
                      refine ⟨k + 1, hs ++ [⟨[48, 48, 51], [], [100], []⟩], va', vc', by go_num, by omega, by rw [List.length_append, HLN.out]; rfl, by have := HLN.out; simp; omega, ?_, ?_, ?_⟩
                      · simpa [Hid] using this.1
                      · simpa [Hid] using this.2
                      · intro q hq
                        rcases List.mem_append.1 hq with hq | hq
                        · exact HMK.out q hq
                        · simp at hq; subst hq; simp [fieldBytes] <;> omega
                    case measure => simp [intOf]; omega
                  · have hnl : ¬ (k : Int) < 990 + m3 := by omega
                    go_wp2_with (go_at_call 21; ((with_reducible refine Calls.mono (HC3.out _) ?_); rintro e w' ⟨rfl, rfl⟩))
                    go_meet
                    exact ⟨kd, lv, va2, vc2, hs, HHK, HRK, by have := HLN.out; omega, HMK⟩
            case rest =>
              obtain ⟨kd2, lv2, va2, vc2, hs, HH9, HR9, hn9, HM9⟩ := hcut
              generalize wc = w9 at *
              have z0 := HH9.out.z0
              have z1 := HH9.out.z1
              have z2 := HH9.out.z2
              have y0 := HH9.out.y0
              have y1 := HH9.out.y1
              have y2 := HH9.out.y2
              have d0 := HH9.out.c0
              have d1 := HH9.out.c1
              have d2 := HH9.out.c2
              clear c0 c1 c2 x0 x1 x2 t0 t1 t2 t3
              go_wp2_with fail
              all_goals
                refine bodyPost_ret (v := .agg #[.int .u8 kd2.toNat, .int .u8 lv2.toNat, .slice va2 hs.length vc2]) (by simp only [results, Tryd.results14]; go_simp) rfl ?_
                exact sp_post (N + 1100) (M + 10100) HB0.out (by omega) HH9.out HR9.out hn9 HM9.out _ rfl
end Go.Proofs.YtfkleeigdplapaaDoor
