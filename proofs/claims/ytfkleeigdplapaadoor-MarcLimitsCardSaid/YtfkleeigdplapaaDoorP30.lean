/-
  MarcLimits: many equal fields, long equal fields.
-/
import Derived.Test.YtfkleeigdplapaaDoorP29
import Derived.Test.YtfkleeigdplapaaDoorM3
import Derived.Deep.AppendLies
namespace Go.Proofs.YtfkleeigdplapaaDoor
open Go.RowKit
attribute [local go_sem ↓] Go.wp_at_zero Go.wp_at_succ

def limF (t x : Bs) : FieldD := ⟨t, [], x, []⟩
def limRec (m : Nat) (f : FieldD) : RecD := ⟨97, 109, List.replicate m f⟩
theorem lim_tags : isTagB [48, 48, 50] = true ∧ ctrlB [48, 48, 50] = true ∧ isTagB [48, 48, 51] = true ∧ ctrlB [48, 48, 51] = true ∧ letterB 97 = true ∧ letterB 109 = true ∧ isTextB [120] = true := by decide
theorem ones_text (n : Nat) : isTextB (List.replicate n 121) = true := by
  have h : ∀ (n : Nat) (x : Ch), x.left = 0 → ∃ y, chRun x (List.replicate n 121) = some y ∧ y.left = 0 := by
    intro n
    induction n with
    | zero => intro x hx; exact ⟨x, rfl, hx⟩
    | succ n ih =>
      intro x hx
      have h1 : chNext x 121 = some ⟨0, 128, 191⟩ := cn_ascii (by omega) (by decide)
      obtain ⟨y, hy, h0⟩ := ih ⟨0, 128, 191⟩ rfl
      refine ⟨y, ?_, h0⟩
      rw [List.replicate_succ, chRun, h1]
      exact hy
  obtain ⟨y, hy, h0⟩ := h n ch0 rfl
  unfold isTextB
  rw [hy]
  simpa using h0
theorem wf_lim {t x : Bs} (h1 : isTagB t = true) (h2 : ctrlB t = true) (h3 : isTextB x = true) : wrongF (limF t x) = 0 := by
  unfold wrongF limF
  simp [h1, h2, h3]
theorem lim_bytes (t x : Bs) : (fieldBytes (limF t x)).length = x.length + 1 := by simp [limF, fieldBytes]
theorem lim_data (m : Nat) (f : FieldD) : (dataOf (List.replicate m f)).length = m * (fieldBytes f).length := by
  induction m with
  | zero => simp [dataOf]
  | succ m ih =>
    rw [List.replicate_succ]
    simp only [dataOf, List.flatMap_cons, List.length_append] at *
    rw [ih, Nat.succ_mul]; omega
theorem lim_wrong (m : Nat) (f : FieldD) (hf : wrongF f = 0) : wrongR (limRec m f) = if m = 0 ∨ ((fieldBytes f).length ≤ 9999 ∧ m ≤ 999 ∧ 26 + 12 * m + m * (fieldBytes f).length ≤ 99999) then 0 else 2 := by
  have hz : firstWrong (limRec m f).fields = 0 := first_zero (fun g hg => by rw [List.eq_of_mem_replicate hg]; exact hf)
  rw [wr_rest _ lim_tags.2.2.2.2.1 lim_tags.2.2.2.2.2.1 hz, sizeOf_eq]
  have hd := lim_data m f
  have ht : tooLong (limRec m f).fields = (decide (0 < m) && decide (9999 < (fieldBytes f).length)) := by
    unfold tooLong limRec
    rw [Bool.eq_iff_iff]
    simp only [List.any_eq_true, decide_eq_true_eq, Bool.and_eq_true]
    constructor
    · rintro ⟨g, hg, hl⟩
      have hm := List.eq_of_mem_replicate hg
      subst hm
      have : m ≠ 0 := by rintro rfl; simp at hg
      exact ⟨by omega, hl⟩
    · rintro ⟨h1, h2⟩
      exact ⟨f, List.mem_replicate.2 ⟨by omega, rfl⟩, h2⟩
  rw [ht]
  have e1 : (limRec m f).fields.length = m := by simp [limRec]
  have e2 : (dataOf (limRec m f).fields).length = m * (fieldBytes f).length := hd
  rw [e1, e2]
  have h0 : m = 0 → m * (fieldBytes f).length = 0 := by rintro rfl; simp
  generalize m * (fieldBytes f).length = q at *
  generalize (fieldBytes f).length = b
  by_cases h : m = 0 ∨ (b ≤ 9999 ∧ m ≤ 999 ∧ 26 + 12 * m + q ≤ 99999)
  · rw [if_pos h]
    refine if_neg ?_
    simp only [Bool.or_eq_true, Bool.and_eq_true, decide_eq_true_eq]
    omega
  · rw [if_neg h]
    refine if_pos ?_
    simp only [Bool.or_eq_true, Bool.and_eq_true, decide_eq_true_eq]
    omega

theorem ones_conv {B n : Nat} {w : World} (h : BytesZ w B (List.replicate n 121)) (cp : Nat) : (convert 40 9 (.slice (some ⟨B, 0, none⟩) n cp)).run Tryd.prog w = .ok (S (List.replicate n 121)) w := by
  have := h.conv cp
  rw [List.length_replicate, List.map_replicate] at this
  exact this
/-- A record under way in block A. -/
structure LimSt (A : Nat) (w0 wr : World) (v : Value) (fs : List FieldD) : Prop where
  below : Below A w0 wr
  big : A + 1 ≤ wr.heap.size
  c0 : wr.cell? ⟨A, 0, none⟩ = some (.int .u8 97)
  c1 : wr.cell? ⟨A, 1, none⟩ = some (.int .u8 109)
  c2 : wr.cell? ⟨A, 2, none⟩ = some v
  x2 : wr.frozen? ⟨A, 2, none⟩ = false
  own : RecOwn (A + 1) wr v fs
theorem LimSt.keep {A : Nat} {w0 wr w2 : World} {v : Value} {fs : List FieldD} (h : LimSt A w0 wr v fs) (hb : Below wr.heap.size wr w2) : LimSt A w0 w2 v fs := by
  have hz := h.big
  refine ⟨btr h.below hb (by omega), Nat.le_trans hz hb.size, ?_, ?_, ?_, ?_, h.own.keep (fun k _ hk => hb.block k hk) hb.size⟩
  · rw [hb.cell (p := ⟨A, 0, none⟩) (by simp; omega)]; exact h.c0
  · rw [hb.cell (p := ⟨A, 1, none⟩) (by simp; omega)]; exact h.c1
  · rw [hb.cell (p := ⟨A, 2, none⟩) (by simp; omega)]; exact h.c2
  · rw [hb.frozen (p := ⟨A, 2, none⟩) (by simp; omega)]; exact h.x2
theorem LimSt.init (w : World) : LimSt w.heap.size w (w.alloc (Obj.cells #[.int .u8 97, .int .u8 109, .slice none 0 0] 27)) (.slice none 0 0) [] := by
  refine ⟨alloc_below1 w _, by simp, ?_, ?_, ?_, ?_, RecOwn.nil _ _⟩
  all_goals go_simp
theorem LimSt.app {A : Nat} {w0 wy w2 : World} {v v' : Value} {fs : List FieldD} (h : LimSt A w0 wy v fs) (t x : Bs) (ps : List (FieldD × Value)) (h1 : ps.map (·.1) = fs) (h2 : ∀ p ∈ ps, SubsOff (A + 1) v.ownBlock wy p.2 p.1.subs)
    (h3 : wy.ownsRow (A + 1) 57 4 v fs.length (ps.flatMap fieldCells)) (hown : w2.ownsRow (A + 1) 57 4 v' (fs.length + 1) (ps.flatMap fieldCells ++ [S t, S [], S x, .slice none 0 0])) (hg : wy.grownBy w2 v.ownBlock)
    (hv : v'.ownBlock = v.ownBlock ∨ v'.ownBlock = some wy.heap.size) : LimSt A w0 (w2.setCell ⟨A, 2, none⟩ v') v' (fs ++ [limF t x]) := by
  have hbig := h.big
  have hk : ∀ k, k < A + 1 → w2.heap[k]? = wy.heap[k]? := fun k hk => hg.block k (by omega) (by intro e; have := (h3.lt k e.symm).1; omega)
  have hbl : Below A w0 w2 := ⟨hg.os.trans h.below.os, hg.tape.trans h.below.tape, hg.output.trans h.below.output, Nat.le_trans h.below.size hg.size, fun k hk' => (hk k (by omega)).trans (h.below.block k hk')⟩
  have c0 := h.c0; have c1 := h.c1; have c2 := h.c2
  rw [← World.cell?_of_block (w := wy) (a := ⟨A, _, none⟩) (hk A (by omega))] at c0 c1 c2
  have hr := RecOwn.app (limF t x) (.slice none 0 0) ps h1 h2 ⟨none, 0, rfl, fun h => absurd rfl h⟩ hown hg hv
  have hz := hg.size
  refine ⟨hbl.setCell (by simp) _, by simp; omega, ?_, ?_, ?_, ?_, hr.keep (fun k a _ => Below.heap_setCell _ _ _ _ (by simp; omega)) (by simp)⟩
  · clear hr hown h3 h2; go_simp
  · clear hr hown h3 h2; go_simp
  · clear hr hown h3 h2; go_simp
  · rw [setCell_frozen, World.frozen?_of_block (w := wy) (a := ⟨A, 2, none⟩) (hk A (by omega))]; exact h.x2
theorem lim_far {A : Nat} {w0 wy w4 : World} {v : Value} {fs : List FieldD} (h : LimSt A w0 wy v fs) (hg : wy.grownBy w4 v.ownBlock) : w4.cell? ⟨A, 2, none⟩ = some v ∧ w4.frozen? ⟨A, 2, none⟩ = false := by
  obtain ⟨ps, _, _, h3⟩ := h.own.ex
  have hbig := h.big
  have hk : w4.heap[A]? = wy.heap[A]? := hg.block A (by omega) (by intro e; have := (h3.lt A e.symm).1; omega)
  exact ⟨(World.cell?_of_block (w := wy) (a := ⟨A, 2, none⟩) hk).trans h.c2, (World.frozen?_of_block (w := wy) (a := ⟨A, 2, none⟩) hk).trans h.x2⟩
theorem lim_small (m : Nat) (t x : Bs) (hm : m ≤ 1100) (hx : x.length ≤ 20000) : Small (limRec m (limF t x)).fields := by
  refine ⟨by simp [limRec]; omega, fun f hf => ?_⟩
  rw [List.eq_of_mem_replicate hf, lim_bytes]; omega
theorem wrong_of {r : RecD} {l : Bs} {n : Int} (h : writeR r = (l, n)) : wrongR r = n := by rw [← writeR_2, h]
theorem lim_write1 (m : Nat) (hm : 995 ≤ m ∧ m ≤ 1002) : ∃ (n : Int) (s : Bs), writeR (limRec m (limF [48, 48, 50] [120])) = (s, n) ∧ ((m ≤ 999 ∧ n = 0) ∨ (999 < m ∧ n = 2)) := by
  have h := lim_wrong m (limF [48, 48, 50] [120]) (wf_lim lim_tags.1 lim_tags.2.1 lim_tags.2.2.2.2.2.2)
  rw [lim_bytes] at h
  refine ⟨wrongR (limRec m (limF [48, 48, 50] [120])), (writeR (limRec m (limF [48, 48, 50] [120]))).1, by rw [← writeR_2], ?_⟩
  rw [h]
  simp only [List.length_singleton]
  by_cases hh : m ≤ 999
  · rw [if_pos (by omega)]; exact .inl ⟨hh, rfl⟩
  · rw [if_neg (by omega)]; exact .inr ⟨by omega, rfl⟩
theorem lim_write2 (m N : Nat) : ∃ (n : Int) (s : Bs), writeR (limRec m (limF [48, 48, 51] (List.replicate N 121))) = (s, n) ∧ n = (if m = 0 ∨ (N + 1 ≤ 9999 ∧ m ≤ 999 ∧ 26 + m * (13 + N) ≤ 99999) then 0 else 2) ∧ (n = 0 → (s.length : Int) = 26 + (m : Int) * (13 + (N : Int))) := by
  have h := lim_wrong m (limF [48, 48, 51] (List.replicate N 121)) (wf_lim lim_tags.2.2.1 lim_tags.2.2.2.1 (ones_text N))
  have e : 26 + 12 * m + m * (N + 1) = 26 + m * (13 + N) := by rw [show m * (13 + N) = m * 12 + m * (N + 1) from by rw [← Nat.mul_add, show 12 + (N + 1) = 13 + N from by omega]]; omega
  rw [lim_bytes, List.length_replicate, e] at h
  refine ⟨wrongR (limRec m (limF [48, 48, 51] (List.replicate N 121))), (writeR (limRec m (limF [48, 48, 51] (List.replicate N 121)))).1, by rw [← writeR_2], h, fun h0 => ?_⟩
  have h1 := (write_length h0).1
  unfold writeR
  rw [if_pos h0, h1]
  have h2 := lim_data m (limF [48, 48, 51] (List.replicate N 121))
  rw [lim_bytes, List.length_replicate] at h2
  show (((26 + 12 * (List.replicate m _).length + (dataOf (List.replicate m _)).length : Nat)) : Int) = _
  rw [h2, List.length_replicate, e]
  push_cast; rfl
theorem lim_keep {A : Nat} {w0 wr : World} {v : Value} {fs : List FieldD} (h : LimSt A w0 wr v fs) : wr.cell? ⟨A, 0, none⟩ = some (.int .u8 97) ∧ wr.cell? ⟨A, 1, none⟩ = some (.int .u8 109) ∧ wr.cell? ⟨A, 2, none⟩ = some v := ⟨h.c0, h.c1, h.c2⟩
theorem lim_cases {m N : Nat} {n : Int} (h : n = (if m = 0 ∨ (N + 1 ≤ 9999 ∧ m ≤ 999 ∧ 26 + m * (13 + N) ≤ 99999) then 0 else 2)) (hm : m ≤ 999) : (n = 0 ∧ (m : Int) = 0) ∨ (n = 0 ∧ ¬ (m : Int) = 0 ∧ (N : Int) + 1 ≤ 9999 ∧ 26 + (m : Int) * (13 + (N : Int)) ≤ 99999) ∨ (n = 2 ∧ ¬ (m : Int) = 0 ∧ (N : Int) + 1 ≤ 9999 ∧ ¬ 26 + (m : Int) * (13 + (N : Int)) ≤ 99999) ∨ (n = 2 ∧ ¬ (m : Int) = 0 ∧ ¬ (N : Int) + 1 ≤ 9999) := by
  have h2 : ((m * (13 + N) : Nat) : Int) = (m : Int) * (13 + (N : Int)) := by push_cast; rfl
  rw [← h2]
  generalize m * (13 + N) = q at *
  split at h <;> omega
set_option maxHeartbeats 8000000 in
set_option maxRecDepth 100000 in
theorem limits_11 (a b c : Int) (w : World) (hT : Tabs w) (ha : 0 ≤ a ∧ a < 256) (hb : 0 ≤ b ∧ b < 256) (hc : 0 ≤ c ∧ c < 256) :
    Calls Tryd.prog 11 #[.int .u8 a, .int .u8 b, .int .u8 c] w fun e w' => e = .returned (.bool true) ∧ Below w.heap.size w w' := by
  have H13 := Lib.hid (sanity_13 w hT)
  obtain ⟨M1, hM1⟩ : ∃ M : Nat, 995 + a % 8 = M := ⟨(995 + a % 8).toNat, by omega⟩
  have hm1 : 995 ≤ M1 ∧ M1 ≤ 1002 := by omega
  obtain ⟨N, hN⟩ : ∃ N : Nat, 9985 + b % 24 = N := ⟨(9985 + b % 24).toNat, by omega⟩
  have hn1 : 9985 ≤ N ∧ N ≤ 10008 := by omega
  obtain ⟨Mm, hMm⟩ : ∃ M : Nat, c % 12 = M := ⟨(c % 12).toNat, by omega⟩
  have hmm1 : Mm ≤ 11 := by omega
  clear hT
  go_enter Tryd.func11, Tryd.ntmps11
  go_wp2_with (go_at_call 13; ((with_reducible refine Calls.mono H13.out ?_); rintro e w1 ⟨rfl, hb1⟩; have HB1 := Lib.hid hb1))
  obtain ⟨F1, hF1⟩ : ∃ F, F = limF [48, 48, 50] [120] := ⟨_, rfl⟩
  have HI1 : Hid (LimSt w1.heap.size w1 (w1.alloc (Obj.cells #[.int .u8 97, .int .u8 109, .slice none 0 0] 27)) (.slice none 0 0) []) := LimSt.init w1
  go_loopw [9] (fun i wr => ∃ (k : Nat) (fs : List FieldD) (va : Option Addr) (vc : Nat), i = .int .i64 k ∧ k ≤ M1 ∧ Hid (fs = List.replicate k F1) ∧ Hid (fs.length = k) ∧ fs.length ≤ 1002 ∧ Hid (LimSt w1.heap.size w1 wr (.slice va fs.length vc) fs)) (fun i _ => M1 - (intOf i).toNat)
  case atStart => exact ⟨0, [], none, 0, rfl, by omega, rfl, rfl, by simp, HI1⟩
  case round =>
    obtain ⟨k, fs, va, vc, rfl, hk, HR, HLN, hfl, HS⟩ := hrel
    have hc2 := HS.out.c2
    have hx2 := HS.out.x2
    have hbg := HS.out.big
    by_cases hlt : k < M1
    · have hlti : (k : Int) < M1 := by omega
      have hst := HS.out.keep (alloc_below1 wr (Obj.cells #[S [48, 48, 50], S [], S [120], .slice none 0 0] 57))
      obtain ⟨ps, hp1, hp2, hp3⟩ := hst.own.ex
      have HST := Lib.hid hst
      have HP1 := Lib.hid hp1
      have HP2 := Lib.hid hp2
      have HP3 := Lib.hid hp3
      obtain ⟨i0, hi, hi0, hi1, hi2⟩ := info_parts i57'
      have HI := Lib.hid hi
      have HI0 := Lib.hid hi0
      have HI1 := Lib.hid hi1
      have HI2 := Lib.hid hi2
      clear hst hp1 hp2 hp3 hi hi0 hi1 hi2
      go_wp2_with (at_builtin; refine wpList_append_own_at _ rfl _ _ 25 rfl (w1.heap.size + 1) 57 i0 (.agg #[.string ⟨#[]⟩, .string ⟨#[]⟩, .string ⟨#[]⟩, .slice none 0 0]) 4 72 Tryd.underlying25 HI.out HI0.out HI1.out HI2.out rfl (by omega) (.slice va fs.length vc) fs.length _ rfl HP3.out ⟨wr.heap.size, 0, none⟩ 1 1 [S [48, 48, 50], S [], S [120], .slice none 0 0] rfl rfl (cell_four_new' _ _ _ _ _ _) (by simp [Value.oneCell']) (by unfold maxLen; omega) (by omega) (by simp; omega) ?_; intro v' w5 hown5 hgw _ hat; obtain ⟨va', vc', rfl⟩ := owns_shape hown5; have HO5 := Lib.hid hown5; have HG5 := Lib.hid hgw; have HAT := Lib.hid hat; obtain ⟨e5, f5⟩ := lim_far HST.out hgw; clear hown5 hgw hat)
      go_roundw
      case rel =>
        refine ⟨k + 1, fs ++ [limF [48, 48, 50] [120]], va', vc', by go_num, by omega, ?_, by rw [List.length_append, HLN.out]; rfl, by have := HLN.out; simp; omega, ?_⟩
        · rw [HR.out, ← hF1, List.replicate_succ']; rfl
        · have := HST.out.app [48, 48, 50] [120] ps HP1.out HP2.out HP3.out HO5.out HG5.out HAT.out
          simpa [Hid] using this
      case measure => simp [intOf]; omega
    · have hM : k = M1 := by omega
      have hnl : ¬ (k : Int) < M1 := by omega
      generalize wr = w2 at *
      go_wp2_with fail
      obtain ⟨F2, hF2⟩ : ∃ F, F = limF [48, 48, 51] (List.replicate N 121) := ⟨_, rfl⟩
      have HI2 : Hid (LimSt w2.heap.size w2 (w2.alloc (Obj.cells #[.int .u8 97, .int .u8 109, .slice none 0 0] 27)) (.slice none 0 0) []) := LimSt.init w2
      clear hc2 hx2
      go_loopw [13] (fun i wr => ∃ (k : Nat) (fs : List FieldD) (va : Option Addr) (vc : Nat), i = .int .i64 k ∧ k ≤ Mm ∧ Hid (fs = List.replicate k F2) ∧ Hid (fs.length = k) ∧ fs.length ≤ 11 ∧ Hid (LimSt w2.heap.size w2 wr (.slice va fs.length vc) fs)) (fun i _ => Mm - (intOf i).toNat)
      case atStart => exact ⟨0, [], none, 0, rfl, by omega, rfl, rfl, by simp, HI2⟩
      case round =>
        obtain ⟨k2, fs2, va2, vc2, rfl, hk2, HR2, HLN2, hfl2, HS2⟩ := hrel
        have hc2b := HS2.out.c2
        have hx2b := HS2.out.x2
        have hbg2 := HS2.out.big
        by_cases hlt2 : k2 < Mm
        · have hlti2 : (k2 : Int) < Mm := by omega
          go_wp2_with fail
          · skip
            have hS : (fun w' : World => w'.cell? ⟨w2.heap.size, 2, none⟩ = some (.slice va2 fs2.length vc2)) wr.drew := hc2b
            refine wp_region_T (fun w' : World => w'.cell? ⟨w2.heap.size, 2, none⟩ = some (.slice va2 fs2.length vc2)) 9 (by kernel_rfl) ?_
            refine anyT_take (i := 0) (v := ?_) rfl (by kernel_rfl) (by kernel_rfl) (by kernel_rfl) (by kernel_rfl) (by decide) (fun _ _ _ h => h) hS (Or.inl ⟨by rfl, ?_⟩) ?_
            rotate_left
            · intro w' h; go_simp; rfl
            refine anyT_take (i := 1) (v := ?_) rfl (by kernel_rfl) (by kernel_rfl) (by kernel_rfl) (by kernel_rfl) (by decide) (fun _ _ _ h => h) hS (Or.inl ⟨by rfl, ?_⟩) ?_
            rotate_left
            · intro w' h; go_simp; rfl
            refine anyT_take (i := 2) (v := ?_) rfl (by kernel_rfl) (by kernel_rfl) (by kernel_rfl) (by kernel_rfl) (by decide) (fun _ _ _ h => h) hS (Or.inl ⟨by rfl, ?_⟩) ?_
            rotate_left
            · intro w' h; go_simp; rfl
            refine anyT_do (i := 3) rfl (by kernel_rfl) rfl (fun K hK => ?_)
            go_simp
            (go_at_call 28; ((with_reducible refine Calls.mono (letters_28 N _ (by omega)) ?_); rintro e w3 ⟨cp3, rfl, hb3, hz3, hB3⟩))
            have HL3 := Lib.hid ((HS2.out.keep (Below.refl wr.heap.size wr).drew).keep hb3)
            have hcv : (convert 40 9 (.slice (some ⟨wr.heap.size, 0, none⟩) N cp3)).run Tryd.prog w3 = .ok (S (List.replicate N 121)) w3 := ones_conv hB3 cp3
            have hS3 := HL3.out.c2
            have hbg3 := HL3.out.big
            clear hB3
            refine hK _ _ (fun _ => hS3) ?_
            clear hK K
            refine anyT_do (i := 4) rfl (by kernel_rfl) rfl (fun K hK => ?_)
            go_simp
            refine hK _ _ (fun _ => hS3) ?_
            clear hK K
            have hS5 : (fun w' : World => w'.cell? ⟨w2.heap.size, 2, none⟩ = some (.slice va2 fs2.length vc2)) (w3.alloc (Obj.cells #[S [48, 48, 51], S [], S (List.replicate N 121), .slice none 0 0] 57)) := (show _ = _ from by rw [alloc_old _ _ _ _ (by have := HL3.out.big; simp; omega)]; exact hS3)
            refine anyT_do (i := 5) rfl (by kernel_rfl) rfl (fun K hK => ?_)
            go_simp
            refine hK _ _ (fun _ => hS3) ?_
            clear hK K
            refine anyT_do (i := 6) rfl (by kernel_rfl) rfl (fun K hK => ?_)
            go_simp
            refine hK _ _ (fun _ => hS5) ?_
            clear hK K
            refine anyT_do (i := 7) rfl (by kernel_rfl) rfl (fun K hK => ?_)
            have hst5 := HL3.out.keep (alloc_below1 w3 (Obj.cells #[S [48, 48, 51], S [], S (List.replicate N 121), .slice none 0 0] 57))
            obtain ⟨ps, hp1, hp2, hp3⟩ := hst5.own.ex
            have HST := Lib.hid hst5
            have HP1 := Lib.hid hp1
            have HP2 := Lib.hid hp2
            have HP3 := Lib.hid hp3
            obtain ⟨i0, hi, hi0, hi1, hi2⟩ := info_parts i57'
            have HI := Lib.hid hi
            have HI0 := Lib.hid hi0
            have HI1 := Lib.hid hi1
            have HI2' := Lib.hid hi2
            clear hst5 hp1 hp2 hp3 hi hi0 hi1 hi2
            refine wp_append_lies _ _ _ 25 rfl (w2.heap.size + 1) 57 i0 (.agg #[.string ⟨#[]⟩, .string ⟨#[]⟩, .string ⟨#[]⟩, .slice none 0 0]) 4 72 Tryd.underlying25 HI.out HI0.out HI1.out HI2'.out rfl (by omega) (.slice va2 fs2.length vc2) fs2.length _ (by rfl) HP3.out ⟨w3.heap.size, 0, none⟩ 1 1 [S [48, 48, 51], S [], S (List.replicate N 121), .slice none 0 0] (by rfl) rfl (cell_four_new' _ _ _ _ _ _) (by simp [Value.oneCell']) (by omega) (by unfold maxLen; omega) (by omega) (by simp; omega) _ rfl ?_
            intro g cap8 w8 hown8 hgw hlie hlt8
            have HO8 := Lib.hid hown8
            have HG8 := Lib.hid hgw
            obtain ⟨e8, f8⟩ := lim_far HST.out hgw
            clear hown8 hgw
            refine hK _ _ (fun _ => e8) ?_
            clear hK K
            refine anyT_do (i := 8) rfl (by kernel_rfl) rfl (fun K hK => ?_)
            go_simp
            refine hK _ _ (fun _ => e8) ?_
            clear hK K
            refine anyT_do (i := 9) rfl (by kernel_rfl) rfl (fun K hK => ?_)
            go_simp
            refine hK _ _ (fun h => absurd rfl h) ?_
            clear hK K
            refine anyT_done (by kernel_rfl) ?_ _
            go_wp2_with fail
            go_roundw
            case rel =>
              refine ⟨k2 + 1, fs2 ++ [limF [48, 48, 51] (List.replicate N 121)], some ⟨g, 0, none⟩, cap8, by go_num, by omega, ?_, by rw [List.length_append, HLN2.out]; rfl, by have := HLN2.out; simp; omega, ?_⟩
              · rw [HR2.out, ← hF2, List.replicate_succ']; rfl
              · have := HST.out.app [48, 48, 51] (List.replicate N 121) ps HP1.out HP2.out HP3.out HO8.out HG8.out (hlie.elim (fun h => .inl h.symm) (fun h => .inr (congrArg some h)))
                simpa [Hid] using this
            case measure => simp [intOf]; omega
        · have hM2 : k2 = Mm := by omega
          have hnl2 : ¬ (k2 : Int) < Mm := by omega
          have HA := Lib.hid (HS.out.keep HS2.out.below)
          obtain ⟨hA0, hA1, hA2⟩ : wr.cell? ⟨w1.heap.size, 0, none⟩ = some (.int .u8 97) ∧ wr.cell? ⟨w1.heap.size, 1, none⟩ = some (.int .u8 109) ∧ wr.cell? ⟨w1.heap.size, 2, none⟩ = some (.slice va fs.length vc) := ⟨HA.out.c0, HA.out.c1, HA.out.c2⟩
          have e1 : fs = (limRec M1 F1).fields := by rw [HR.out, hM]; rfl
          have e2 : fs2 = (limRec Mm F2).fields := by rw [HR2.out, hM2]; rfl
          obtain ⟨n1, s1, hw1, hn1'⟩ := lim_write1 M1 (by omega)
          obtain ⟨n2, s2, hw2, hn2', hlen⟩ := lim_write2 Mm N
          rw [← hF1] at hw1
          rw [← hF2] at hw2
          have HWA : Hid (∀ W, Below wr.heap.size wr W → Calls Tryd.prog 17 #[.agg #[.int .u8 97, .int .u8 109, .slice va fs.length vc]] W fun e w' => e = .returned (.tuple #[S s1, .int .i64 n1]) ∧ Below W.heap.size W w') := fun W hW =>
            write_at (limRec M1 F1) _ W (by rw [← e1]; exact fields_up (HA.out.own.fields (Nat.zero_le _)) (Nat.le_refl _) hW) (hF1 ▸ lim_small _ _ _ (by omega) (by simp)) hw1
          have HWB : Hid (∀ W, Below wr.heap.size wr W → Calls Tryd.prog 17 #[.agg #[.int .u8 97, .int .u8 109, .slice va2 fs2.length vc2]] W fun e w' => e = .returned (.tuple #[S s2, .int .i64 n2]) ∧ Below W.heap.size W w') := fun W hW =>
            write_at (limRec Mm F2) _ W (by rw [← e2]; exact fields_up (HS2.out.own.fields (Nat.zero_le _)) (Nat.le_refl _) hW) (hF2 ▸ lim_small _ _ _ (by omega) (by simp; omega)) hw2
          have HWR : Hid (∀ W, Below wr.heap.size wr W → Calls Tryd.prog 26 #[.agg #[.int .u8 97, .int .u8 109, .slice va2 fs2.length vc2]] W fun e w' => e = .returned (.bool (decide (n2 = 0))) ∧ Below W.heap.size W w') := fun W hW => by
            have := right_26 (limRec Mm F2) (recV (limRec Mm F2) (.slice va2 fs2.length vc2)) W ⟨_, rfl, by rw [← e2]; exact fields_up (HS2.out.own.fields (Nat.zero_le _)) (Nat.le_refl _) hW⟩ (hF2 ▸ lim_small _ _ _ (by omega) (by simp; omega))
            rw [wrong_of hw2] at this
            exact this
          have hl1 : (fs.length : Int) = M1 := by rw [HLN.out, hM]
          have HBW : Hid (Below w.heap.size w wr) := Lib.hid (btr HB1.out (btr HS.out.below HS2.out.below HS.out.below.size) HB1.out.size)
          have hd0 := HS2.out.c0
          have hd1 := HS2.out.c1
          clear hw1 hw2 e1 e2
          have hQ0 : (0 : Int) ≤ (Mm : Int) * (13 + (N : Int)) := Int.mul_nonneg (by omega) (by omega)
          have hQ1 : (Mm : Int) * (13 + (N : Int)) ≤ 200000 := by
            have : Mm * (13 + N) ≤ 11 * 10021 := Nat.mul_le_mul hmm1 (by omega)
            have h2 : ((Mm * (13 + N) : Nat) : Int) = (Mm : Int) * (13 + (N : Int)) := by push_cast; rfl
            omega
          have hcs : (n2 = 0 ∧ (Mm : Int) = 0) ∨ (n2 = 0 ∧ ¬ (Mm : Int) = 0 ∧ (N : Int) + 1 ≤ 9999 ∧ 26 + (Mm : Int) * (13 + (N : Int)) ≤ 99999) ∨ (n2 = 2 ∧ ¬ (Mm : Int) = 0 ∧ (N : Int) + 1 ≤ 9999 ∧ ¬ 26 + (Mm : Int) * (13 + (N : Int)) ≤ 99999) ∨ (n2 = 2 ∧ ¬ (Mm : Int) = 0 ∧ ¬ (N : Int) + 1 ≤ 9999) := lim_cases hn2' (by omega)
          have hlA : (M1 ≤ 999 ∧ n1 = 0 ∧ (fs.length : Int) ≤ 999) ∨ (¬ (fs.length : Int) ≤ 999 ∧ n1 = 2) := by omega
          clear hn2' hn1' hl1
          rcases hlA with ⟨_, rfl, hle⟩ | ⟨hle, rfl⟩ <;> rcases hcs with ⟨rfl, h0⟩ | ⟨rfl, h0, h9, h99⟩ | ⟨rfl, h0, h9, h99⟩ | ⟨rfl, h0, h9⟩
          all_goals
            (first | replace hlen := hlen rfl | clear hlen)
            go_wp2_with (first
              | (go_at_call 17; ((with_reducible refine Calls.mono (HWA.out _ (Below.refl _ _)) ?_); rintro e w4 ⟨rfl, hb4⟩; obtain ⟨g0, g1, g2⟩ := lim_keep (HS2.out.keep hb4)))
              | (go_at_call 17; ((with_reducible refine Calls.mono (HWB.out _ hb4) ?_); rintro e w5 ⟨rfl, hb5⟩; have HB5 := Lib.hid (btr hb4 hb5 hb4.size); obtain ⟨g0, g1, g2⟩ := lim_keep (HS2.out.keep HB5.out); obtain ⟨q0, q1, q2⟩ := lim_keep (HA.out.keep HB5.out)))
              | (go_at_call 26; ((with_reducible refine Calls.mono (HWR.out _ HB5.out) ?_); rintro e w6 ⟨rfl, hb6⟩; have HB6 := Lib.hid (btr HB5.out hb6 HB5.out.size))))
            go_ret
            refine ⟨congrArg (fun b => Ending.returned (.bool b)) ?_, btr HBW.out HB6.out HBW.out.size⟩
            clear hc2b hd0 hd1 hA0 hA1 hA2
            (first | (simp [h0, hle]; done) | (simp [hle]; omega))
end Go.Proofs.YtfkleeigdplapaaDoor
