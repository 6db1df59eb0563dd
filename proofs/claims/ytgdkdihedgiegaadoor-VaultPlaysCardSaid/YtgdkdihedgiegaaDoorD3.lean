/-
  The walks of add and settle: the list of pieces.
-/
import Derived.Test.YtgdkdihedgiegaaDoorD2
import Derived.Test.YtgdkdihedgiegaaDoorTail
namespace Go.Proofs.YtgdkdihedgiegaaDoor
open Go.RowKit

theorem i93 : (Tryd.prog.info? 93).map (fun i => (i.zero, i.size, i.bytes)) = some (some (.agg #[.int .i64 0, .slice none 0 0]), 2, 32) := by kernel_rfl
theorem wp_run {w : World} {o : Oper} {a : Act} {K : Act → World → Prop} {Q : Exit → Act → World → Prop} (sl x : Operand) (t t' ty : TypeId) (ho : o.op = .call { callee := .builtin .append, args := #[sl, x], argTypes := #[t, t'] }) (hty : o.type = ty)
    (v y v' : Value) (w' : World) (hs : a.eval sl = v) (hx : a.eval x = y) (hr : (Builtin.append_ #[t, t'] ty #[v, y]).run Tryd.prog w = .ok v' w')
    (h : K (a.put o.dst v') w') : o.wp Tryd.prog a w K Q := by
  unfold Oper.wp execOp
  simp only [ho, hty, resolve, invoke, builtin, Sem.run_bind, Sem.run_pure, Result.andThen_ok, List.map_toArray, List.map_cons, List.map_nil, hs, hx, hr]
  exact h
theorem cell_new_drew (X : World) (c : Array Value) (t : TypeId) (n i : Nat) (v : Value) (hn : n = X.heap.size) (h : c[i]? = some v) : (X.alloc (.cells c t)).drew.cell? ⟨n, i, none⟩ = some v := by subst hn; exact (World.cell?_alloc_new X c t i).trans h
theorem alloc_below (w : World) (o : Obj) : Below w.heap.size w (w.alloc o) := (Below.refl _ w).alloc (Nat.le_refl _) o
/-- A block of F, the struct's and the pieces' row. -/
def Two (b : Nat) (v : Value) (k : Nat) : Prop := k = b ∨ v.ownBlock = some k
structure AddPost (w : World) (b : Nat) (c0 c1 vp c3 c4 c5 : Value) (n : Nat) (xs news : List Value) (w' : World) : Prop where
  ex : ∃ vp', w'.heap[b]? = some (.cells #[c0, c1, vp', c3, c4, c5] 71 (0, 0)) ∧ w'.ownsRow 0 93 2 vp' (n + 1) (xs ++ news) ∧ Step (Two b vp) w (Two b vp') w'
set_option maxHeartbeats 1000000 in
set_option maxRecDepth 100000 in
theorem add_68 (w : World) (b : Nat) (c0 c1 vp c3 c4 c5 : Value) (n : Nat) (xs : List Value) (off : Int) (tv : Value) (ht : tv.oneCell' = true) (hb : w.heap[b]? = some (.cells #[c0, c1, vp, c3, c4, c5] 71 (0, 0))) (hown : w.ownsRow 0 93 2 vp n xs) (hn : n ≤ 100000000) :
    Calls Tryd.prog 68 #[.pointer (some ⟨b, 2, none⟩), .agg #[.int .i64 off, tv]] w fun e w' => e = .returned (.tuple #[]) ∧ AddPost w b c0 c1 vp c3 c4 c5 n xs [.int .i64 off, tv] w' := by
  have hlt := blk_lt hb
  have HB := Lib.hid hb
  have HO := Lib.hid hown
  obtain ⟨va, vc, rfl⟩ := row_shape hown
  have hS : Hid ((w.alloc (.cells #[.int .i64 off, tv] 93)).drew.cell? ⟨b, 2, none⟩ = some (.slice va n vc) ∧ (w.alloc (.cells #[.int .i64 off, tv] 93)).drew.cell? ⟨w.heap.size, 0, none⟩ = some (.int .i64 off) ∧ (w.alloc (.cells #[.int .i64 off, tv] 93)).drew.cell? ⟨w.heap.size, 1, none⟩ = some tv) := by
    refine ⟨?_, cell_new_drew w _ _ _ _ _ rfl rfl, cell_new_drew w _ _ _ _ _ rfl rfl⟩
    show (w.alloc (.cells #[.int .i64 off, tv] 93)).cell? ⟨b, 2, none⟩ = _
    rw [alloc_old _ _ _ _ hlt, blk_cell hb]; rfl
  clear hb hown
  go_enter Tryd.func68, Tryd.ntmps68
  go_wp2_with fail
  refine wp_region_T (fun w' => w'.cell? ⟨b, 2, none⟩ = some (.slice va n vc) ∧ w'.cell? ⟨w.heap.size, 0, none⟩ = some (.int .i64 off) ∧ w'.cell? ⟨w.heap.size, 1, none⟩ = some tv) 10 (by kernel_rfl) ?_
  refine anyT_take (i := 0) (v := ?_) rfl (by kernel_rfl) (by kernel_rfl) (by kernel_rfl) (by kernel_rfl) (by decide) (fun _ _ _ h => h) hS.out (Or.inl ⟨by rfl, ?_⟩) ?_
  rotate_left
  · intro w' h; obtain ⟨h0, h1, h2⟩ := h; go_simp; rfl
  refine anyT_take (i := 1) (v := ?_) rfl (by kernel_rfl) (by kernel_rfl) (by kernel_rfl) (by kernel_rfl) (by decide) (fun _ _ _ h => h) hS.out (Or.inl ⟨by rfl, ?_⟩) ?_
  rotate_left
  · intro w' h; obtain ⟨h0, h1, h2⟩ := h; go_simp; rfl
  refine anyT_take (i := 2) (v := ?_) rfl (by kernel_rfl) (by kernel_rfl) (by kernel_rfl) (by kernel_rfl) (by decide) (fun _ _ _ h => h) hS.out (Or.inl ⟨by rfl, ?_⟩) ?_
  rotate_left
  · intro w' h; obtain ⟨h0, h1, h2⟩ := h; go_simp; rfl
  refine anyT_take (i := 3) (v := ?_) rfl (by kernel_rfl) (by kernel_rfl) (by kernel_rfl) (by kernel_rfl) (by decide) (fun _ _ _ h => h) hS.out (Or.inl ⟨by rfl, ?_⟩) ?_
  rotate_left
  · intro w' h; obtain ⟨h0, h1, h2⟩ := h; go_simp; rfl
  refine anyT_take (i := 4) (v := ?_) rfl (by kernel_rfl) (by kernel_rfl) (by kernel_rfl) (by kernel_rfl) (by decide) (fun _ _ _ h => h) hS.out (Or.inl ⟨by rfl, ?_⟩) ?_
  rotate_left
  · intro w' h; obtain ⟨h0, h1, h2⟩ := h; go_simp; rfl
  refine anyT_take (i := 5) (v := ?_) rfl (by kernel_rfl) (by kernel_rfl) (by kernel_rfl) (by kernel_rfl) (by decide) (fun _ _ _ h => h) hS.out (Or.inl ⟨by rfl, ?_⟩) ?_
  rotate_left
  · intro w' h; obtain ⟨h0, h1, h2⟩ := h; go_simp; rfl
  obtain ⟨W1, hW1⟩ : ∃ W1, (w.alloc (.cells #[.int .i64 off, tv] 93)).drew = W1 := ⟨_, rfl⟩
  have hbl : Below w.heap.size w W1 := by rw [← hW1]; exact (alloc_below w _).drew
  have hz1 : W1.heap.size = w.heap.size + 1 := by rw [← hW1]; simp
  rw [hW1] at hS ⊢
  have HBL := Lib.hid hbl
  clear hW1 hbl
  refine anyT_do (i := 6) rfl (by kernel_rfl) rfl (fun K hK => ?_)
  go_simp
  have hS2 : Hid ((W1.alloc (.cells #[.int .i64 off, tv] 93)).cell? ⟨b, 2, none⟩ = some (.slice va n vc) ∧ (W1.alloc (.cells #[.int .i64 off, tv] 93)).cell? ⟨w.heap.size, 0, none⟩ = some (.int .i64 off) ∧ (W1.alloc (.cells #[.int .i64 off, tv] 93)).cell? ⟨w.heap.size, 1, none⟩ = some tv) := by
    obtain ⟨h0, h1, h2⟩ := hS.out
    exact ⟨by rw [alloc_old _ _ _ _ (by omega)]; exact h0, by rw [alloc_old _ _ _ _ (by omega)]; exact h1, by rw [alloc_old _ _ _ _ (by omega)]; exact h2⟩
  refine hK _ _ (fun _ => hS2.out) ?_
  clear hK K
  have HB2 : Hid ((W1.alloc (.cells #[.int .i64 off, tv] 93)).heap[b]? = some (.cells #[c0, c1, .slice va n vc, c3, c4, c5] 71 (0, 0))) := ((Below.heap_alloc _ _ _ (by omega)).trans (HBL.out.block b hlt)).trans HB.out
  have HO2 : Hid ((W1.alloc (.cells #[.int .i64 off, tv] 93)).ownsRow 0 93 2 (.slice va n vc) n xs) := row_far HO.out (fun g hg => by
    have := row_lt HO.out g hg
    exact (Below.heap_alloc _ _ _ (by omega)).trans (HBL.out.block g this))
  have HBL2 : Hid (Below w.heap.size w (W1.alloc (.cells #[.int .i64 off, tv] 93))) := HBL.out.alloc (by omega) _
  have HF : Hid (From (W1.alloc (.cells #[.int .i64 off, tv] 93)) (.slice (some ⟨W1.heap.size, 0, none⟩) 1 1) 1 [.int .i64 off, tv]) := ⟨⟨_, _, rfl, fun _ => ⟨_, rfl, fun j u hu => by
    rw [add_lit, Nat.zero_add]
    match j, hu with
    | 0, hu => simp at hu; subst hu; exact World.cell?_alloc_new W1 _ _ 0
    | 1, hu => simp at hu; subst hu; exact World.cell?_alloc_new W1 _ _ 1⟩⟩⟩
  generalize W1.alloc (.cells #[.int .i64 off, tv] 93) = W2 at *
  rw [hz1] at HF
  obtain ⟨v', w7, hr, h2, h3⟩ := run_from 67 67 93 _ 2 32 Tryd.underlying67 i93 rfl (by decide) (by decide) W2 (.slice va n vc) n xs HO2.out _ 1 _ HF.out rfl (by intro u hu; simp at hu; rcases hu with rfl | rfl; rfl; exact ht) (by omega)
  have hb7 : b < W2.heap.size := blk_lt HB2.out
  have hnb : (Value.slice va n vc).ownBlock ≠ some b := fun e => by obtain ⟨cur, hc⟩ := row_type HO2.out e; exact type_ne hc HB2.out (by decide) rfl
  have hB7 : w7.heap[b]? = some (.cells #[c0, c1, .slice va n vc, c3, c4, c5] 71 (0, 0)) := (h3.grown.block b hb7 (fun e => hnb e.symm)).trans HB2.out
  have hown7 : ∀ k, k < w.heap.size → (Value.slice va n vc).ownBlock ≠ some k → w7.heap[k]? = w.heap[k]? := fun k hk hne => (h3.grown.block k (Nat.lt_of_lt_of_le hk HBL2.out.size) (fun e => hne e.symm)).trans (HBL2.out.block k hk)
  have hwn : (Value.slice va n vc).ownBlock ≠ some w.heap.size := fun e => by have := row_lt HO.out _ e; omega
  refine anyT_do (i := 7) rfl (by kernel_rfl) rfl (fun K hK => ?_)
  refine wp_run _ _ 67 67 67 rfl rfl _ _ v' w7 (by rfl) (by rfl) hr ?_
  have HS7 : Hid (w7.cell? ⟨b, 2, none⟩ = some (.slice va n vc) ∧ w7.cell? ⟨w.heap.size, 0, none⟩ = some (.int .i64 off) ∧ w7.cell? ⟨w.heap.size, 1, none⟩ = some tv) := by
    obtain ⟨h0, h1, h2'⟩ := hS2.out
    have hlt2 := cell_lt h1
    exact ⟨by rw [blk_cell hB7]; rfl, onto_cell h3 h1 hwn, onto_cell h3 h2' hwn⟩
  refine hK _ _ (fun _ => HS7.out) ?_
  clear hK K
  have HR := Lib.hid h2
  have H3 := Lib.hid h3
  have HB7 := Lib.hid hB7
  have HOW := Lib.hid hown7
  have k2 : w7.cell? ⟨b, 2, none⟩ = some (.slice va n vc) := by rw [blk_cell hB7]; rfl
  have f2 : w7.frozen? ⟨b, 2, none⟩ = false := blk_frozen hB7 2
  obtain ⟨va', vc', rfl⟩ := row_shape h2
  clear hr h2 h3 hB7 hown7 hS hS2
  refine anyT_do (i := 8) rfl (by kernel_rfl) rfl (fun K hK => ?_)
  go_simp
  refine hK _ _ (fun _ => HS7.out) ?_
  clear hK K
  refine anyT_do (i := 9) rfl (by kernel_rfl) rfl (fun K hK => ?_)
  go_simp
  refine hK _ _ (fun _ => HS7.out) ?_
  clear hK K
  refine anyT_do (i := 10) rfl (by kernel_rfl) rfl (fun K hK => ?_)
  go_simp
  refine hK _ _ (fun h => absurd rfl h) ?_
  clear hK K
  refine anyT_done (by kernel_rfl) ?_ _
  go_wp2_with fail
  go_end0
  have hsz := HBL2.out.size
  have hsz7 := H3.out.grown.size
  refine ⟨rfl, ⟨_, (blk_set HB7.out 2 _).trans rfl, row_far HR.out (fun g hg => Below.heap_setCell _ _ _ _ (fun e => ?_)), ?_⟩⟩
  · subst e
    rcases H3.out.at_ with h1 | h1
    · exact hnb (h1 ▸ hg)
    · rw [h1] at hg; injection hg with hg; omega
  · refine ⟨H3.out.grown.os.trans HBL2.out.os, H3.out.grown.tape.trans HBL2.out.tape, H3.out.grown.output.trans HBL2.out.output, by simp; omega, fun k hk hne => ?_, fun k hk => ?_⟩
    · rw [Below.heap_setCell _ _ _ _ (fun e => hne (.inl e))]
      exact HOW.out k hk (fun e => hne (.inr e))
    · rcases hk with rfl | hk
      · exact .inl (.inl rfl)
      · rcases H3.out.at_ with h1 | h1
        · exact .inl (.inr (h1 ▸ hk))
        · rw [h1] at hk; injection hk with hk; right; omega
set_option maxHeartbeats 1000000 in
theorem settle_59 (w : World) (b : Nat) (c0 c1 vp c3 c4 c5 : Value) (hb : w.heap[b]? = some (.cells #[c0, c1, vp, c3, c4, c5] 71 (0, 0))) :
    Calls Tryd.prog 59 #[.pointer (some ⟨b, 2, none⟩)] w fun e w' => e = .returned (.tuple #[]) ∧ w'.heap[b]? = some (.cells #[c0, c1, .slice none 0 0, c3, c4, c5] 71 (0, 0)) ∧ Only b w w' := by
  have k2 : w.cell? ⟨b, 2, none⟩ = some vp := by rw [blk_cell hb]; rfl
  have f2 : w.frozen? ⟨b, 2, none⟩ = false := blk_frozen hb 2
  have HB := Lib.hid hb
  clear hb
  go_enter Tryd.func59, Tryd.ntmps59
  go_wp2_with fail
  go_end0
  exact ⟨rfl, (blk_set HB.out 2 _).trans rfl, Only.setCell (Only.refl b w) 2 _⟩
end Go.Proofs.YtgdkdihedgiegaaDoor
