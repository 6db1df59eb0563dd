/-
  The walk of encode.
-/
import Derived.Test.YtpkacoknpedolaaDoorD5
import Derived.Test.YtpkacoknpedolaaDoorD6a
namespace Go.Proofs.YtpkacoknpedolaaDoor
open Go.RowKit Go.Maps

/-- How encode ends. -/
def EncodePost (r : Except (Nat × Option Int) ES) (w : World) (e : Ending) (w' : World) : Prop :=
  Below w.heap.size w w' ∧ match r with
    | .error (k, some x) => e = failV k x
    | .error (k, none) => ∃ x : Int, x ≠ 0 ∧ e = failV k x
    | .ok es => e = .returned (S (encEnd es))
/-- The states of encoding have texts that memory can hold. -/
def EncFits (l : Bs) : Prop := ∃ P : Nat → ES → Prop, P 0 ⟨[], 0, []⟩ ∧ (∀ pos e, P pos e → e.out.length + e.pend.length ≤ 140737488353000) ∧ ∀ pos e e', pos < (⟨l.toArray⟩ : ByteArray).size → P pos e → (Utf8.decode ⟨l.toArray⟩ pos).1 ≠ 65533 → encStep (Utf8.decode ⟨l.toArray⟩ pos).1 e = some e' → P (pos + (Utf8.decode ⟨l.toArray⟩ pos).2) e'
theorem EncSt.outMore {B E Z bs bb cp mu mk mc : Nat} {w wr w' : World} {e : ES} {g g' : Option Nat} {pv : Value} {l' : Bs} (D : Dim2 B E Z bs bb) (h : EncSt B E Z bs bb cp mu mk mc w wr e)
    (H : Bld (encK bs bb cp mu mk e.now pv) Z E g e.out wr) (hp : wr.ownsRow Z 5 1 pv e.pend.length (Lib.byteCells e.pend)) (hne : ∀ k, g = some k → pv.ownBlock ≠ some k)
    (H' : Bld (encK bs bb cp mu mk e.now pv) Z E g' l' w') (hg' : g' = g ∨ ∃ k, g' = some k ∧ wr.heap.size ≤ k) (f : Fr E g wr w') : EncSt B E Z bs bb cp mu mk mc w w' { e with out := l' } ∧ Keeps E wr w' :=
  ⟨h.turn D (fun k e2 => (H.row k e2).1) f (H.maps f) h.now H' (ownr_far hp (fun k hk => f.block k (hp.lt k hk).2 (by have := (hp.lt k hk).1; have := D.e; omega) (fun e2 => hne k e2.symm hk))) (ne_grown hne (fun k hk => (hp.lt k hk).2) hg'), H.keeps f⟩
/-- What the composed character's region reads. -/
structure RegM (E T mk m x : Nat) (pv : Value) (w : World) : Prop where
  c0 : w.cell? ⟨E, 7, none⟩ = some pv
  c1 : w.cell? ⟨E, 5, none⟩ = some (.map (some mk))
  c2 : w.cell? ⟨T, 1, none⟩ = some (.int .i32 m)
  lk : (Instr.lookup 66 (.map (some mk)) (.int .i32 m) false).run Tryd.prog w = .ok (.int .u8 x) w
theorem RegM.of {E T mk m x : Nat} {pv : Value} {w : World} (hmk : ∃ n, MapR w mk n mkR) (hx : x = (mkR m).getD 0) (hm : m < 2147483648) (c0 : w.cell? ⟨E, 7, none⟩ = some pv) (c1 : w.cell? ⟨E, 5, none⟩ = some (.map (some mk))) (c2 : w.cell? ⟨T, 1, none⟩ = some (.int .i32 m)) : RegM E T mk m x pv w := by
  obtain ⟨n, h⟩ := hmk
  exact ⟨c0, c1, c2, by subst hx; exact h.look1 m hm⟩
theorem RegM.below {E T mk m x : Nat} {pv : Value} {w w' : World} (h : RegM E T mk m x pv w) (hmk : ∃ n, MapR w mk n mkR) (hx : x = (mkR m).getD 0) (hm : m < 2147483648) (hb : Below w.heap.size w w') : RegM E T mk m x pv w' := by
  obtain ⟨n, hk⟩ := hmk
  exact .of ⟨n, hk.below hb⟩ hx hm (bext hb _ _ h.c0) (bext hb _ _ h.c1) (bext hb _ _ h.c2)
theorem RegM.grown {E T mk m x Z n : Nat} {pv : Value} {xs : List Value} {w W w8 : World} (h : RegM E T mk m x pv w) (hmk : ∃ n, MapR w mk n mkR) (hx : x = (mkR m).getD 0) (hm : m < 2147483648) (hb : Below w.heap.size w W) (hp : w.ownsRow Z 5 1 pv n xs) (hE : E < Z) (hT : ∀ k, pv.ownBlock = some k → k ≠ T) (hg : W.grownBy w8 pv.ownBlock) : RegM E T mk m x pv w8 := by
  have hEz := cell_lt h.c0
  have hTz := cell_lt h.c2
  have hz := hb.size
  have h2 := h.below hmk hx hm hb
  have hv := hp.lt
  obtain ⟨k, hk⟩ := hmk
  have hk1 := hk.below hb
  have hmk2 : MapsKept W w8 := fun j es c hj => by
    refine hg.block j (Array.getElem?_eq_some_iff.1 hj).1 (fun e => ?_)
    have hlt := (hv j e.symm).2
    rcases hp.2 with ⟨rfl, _⟩ | ⟨q, cap, cur, rfl, _, hq, _⟩
    · cases e
    · have e' : j = q := by injection e
      subst e'
      rw [hb.block j hlt, hq] at hj; cases hj
  refine .of ⟨k, hk1.maps hmk2⟩ hx hm ?_ ?_ ?_
  · rw [hg.cell_far ⟨E, 7, none⟩ (by have : E < w.heap.size := hEz; show E < _; omega) (fun e => by have := (hv E e.symm).1; omega)]; exact h2.c0
  · rw [hg.cell_far ⟨E, 5, none⟩ (by have : E < w.heap.size := hEz; show E < _; omega) (fun e => by have := (hv E e.symm).1; omega)]; exact h2.c1
  · rw [hg.cell_far ⟨T, 1, none⟩ (by have : T < w.heap.size := hTz; show T < _; omega) (fun e => hT T e.symm rfl)]; exact h2.c2
theorem one_new (W : World) (o : Obj) (b : Nat) : ∀ j u, [Value.int .u8 b][j]? = some u → ((W.alloc o).alloc (.cells #[.int .u8 b] 5)).cell? ((⟨W.heap.size + 1, 0, none⟩ : Addr).add j) = some u := by
  intro j u hj
  match j, hj with
  | 0, hj =>
    simp at hj; subst hj
    have e : (⟨W.heap.size + 1, 0, none⟩ : Addr).add 0 = ⟨(W.alloc o).heap.size, 0, none⟩ := by unfold Addr.add; simp
    rw [e, World.cell?_alloc_new]; rfl
theorem pend_block {B E Z bs bb cp mu mk mc n : Nat} {w wr W w8 : World} {e : ES} {g : Option Nat} {pv : Value} {xs : List Value} (D : Dim2 B E Z bs bb) (_ : EncSt B E Z bs bb cp mu mk mc w wr e) (H : Bld (encK bs bb cp mu mk e.now pv) Z E g e.out wr) (hp : wr.ownsRow Z 5 1 pv n xs) (hb : Below wr.heap.size wr W) (hg : W.grownBy w8 pv.ownBlock) : w8.heap[E]? = wr.heap[E]? := by
  have hE := H.old
  have hz := hb.size
  have hD := D.e
  exact (hg.block E (by omega) (fun e2 => by have := (hp.lt E e2.symm).1; omega)).trans (hb.block E hE)
theorem pend_frozen {B E Z bs bb cp mu mk mc n : Nat} {w wr W w8 : World} {e : ES} {g : Option Nat} {pv : Value} {xs : List Value} (D : Dim2 B E Z bs bb) (h : EncSt B E Z bs bb cp mu mk mc w wr e) (H : Bld (encK bs bb cp mu mk e.now pv) Z E g e.out wr) (hp : wr.ownsRow Z 5 1 pv n xs) (hb : Below wr.heap.size wr W) (hg : W.grownBy w8 pv.ownBlock) : w8.frozen? ⟨E, 7, none⟩ = false := by
  obtain ⟨_, _, _, _, _, _, fz⟩ := enc_fields H
  rw [World.frozen?_of_block (w := wr) (pend_block D h H hp hb hg)]; exact fz 7
theorem pend_cell {B E Z bs bb cp mu mk mc n : Nat} {w wr W w8 : World} {e : ES} {g : Option Nat} {pv : Value} {xs : List Value} (D : Dim2 B E Z bs bb) (h : EncSt B E Z bs bb cp mu mk mc w wr e) (H : Bld (encK bs bb cp mu mk e.now pv) Z E g e.out wr) (hp : wr.ownsRow Z 5 1 pv n xs) (hb : Below wr.heap.size wr W) (hg : W.grownBy w8 pv.ownBlock) : w8.cell? ⟨E, 7, none⟩ = some pv := by
  obtain ⟨_, _, _, _, _, c7, _⟩ := enc_fields H
  rw [World.cell?_of_block (w := wr) (pend_block D h H hp hb hg)]; exact c7
theorem tabC_mem : ∀ (l : List (Nat × Nat × Nat)) (c : Nat) (p : Nat × Nat), tabC l c = some p → (c, p) ∈ l := by
  have hg : ∀ (l : List (Nat × Nat × Nat)) (f : Nat → Option (Nat × Nat)) (c : Nat) (p : Nat × Nat), l.foldl updC f c = some p → (c, p) ∈ l ∨ f c = some p := by
    intro l
    induction l with
    | nil => intro f c p h; exact .inr h
    | cons q l ih =>
      intro f c p h
      rcases ih _ _ _ h with h | h
      · exact .inl (List.mem_cons_of_mem _ h)
      · unfold updC at h
        split at h
        · rename_i e; injection h with h; subst h; subst e; exact .inl List.mem_cons_self
        · exact .inr h
  intro l c p h
  rcases hg l _ c p h with h | h
  · exact h
  · cases h
theorem comp_small : ∀ p ∈ compT, p.1 < 65536 ∧ p.2.1 < 65536 ∧ p.2.2 < 65536 := by decide +kernel
theorem comp_lt {c a m : Nat} (h : tabC compT c = some (a, m)) : a < 2147483648 ∧ m < 2147483648 := by
  have := comp_small _ (tabC_mem _ _ _ h)
  simp only at this; omega
theorem mk_lt (m : Nat) : (mkR m).getD 0 < 256 := by
  cases h : mkR m with
  | none => simp
  | some b => exact mkR_lt h
theorem step_comp {c a m : Nat} (h : tabC compT c = some (a, m)) (e : ES) : encStep c e = match putR a e with
    | some e' => some { e' with pend := e'.pend ++ [UInt8.ofNat ((mkR m).getD 0)] }
    | none => none := by unfold encStep; rw [h]; simp only; cases putR a e <;> rfl
theorem step_mark {c b : Nat} (h : tabC compT c = none) (hm : mkR c = some b) (e : ES) : encStep c e = if e.pend = [] then none else some { e with pend := e.pend ++ [UInt8.ofNat b] } := by unfold encStep; rw [h]; simp only; rw [hm]
theorem step_ctl {c : Nat} (h : tabC compT c = none) (hm : mkR c = none) (hc : c < 32 ∧ c ≠ 27) (e : ES) : encStep c e = some { finR e with out := (finR e).out ++ [UInt8.ofNat c] } := by unfold encStep; rw [h]; simp only; rw [hm]; simp only; rw [if_pos hc]
theorem step_put {c : Nat} (h : tabC compT c = none) (hm : mkR c = none) (hc : ¬ (c < 32 ∧ c ≠ 27)) (e : ES) : encStep c e = putR c e := by unfold encStep; rw [h]; simp only; rw [hm]; simp only; rw [if_neg hc]
theorem encPost_at {r : Except (Nat × Option Int) ES} {w w' : World} {e : Ending} {k : Nat} (hr : r = .error (k, some 15)) (he : e = failV k 15) (hb : Below w.heap.size w w') : EncodePost r w e w' := by subst hr; exact ⟨hb, he⟩
theorem encPost_bad {r : Except (Nat × Option Int) ES} {w w' : World} {e : Ending} {k : Nat} {x : Int} (hr : r = .error (k, none)) (hx : x ≠ 0) (he : e = failV k x) (hb : Below w.heap.size w w') : EncodePost r w e w' := by subst hr; exact ⟨hb, x, hx, he⟩
theorem encPost_ok {r : Except (Nat × Option Int) ES} {w w' : World} {e : Ending} {es : ES} (hr : r = .ok es) (he : e = .returned (S (encEnd es))) (hb : Below w.heap.size w w') : EncodePost r w e w' := by subst hr; exact ⟨hb, he⟩
theorem encGo_end (s : ByteArray) (pos : Nat) (h : ¬ pos < s.size) (e : ES) : ∀ fu, encGo s fu pos e = .ok e := by
  intro fu
  cases fu with
  | zero => rfl
  | succ f => rw [encGo, if_neg h]
theorem encGo_step (s : ByteArray) (pos fu : Nat) (h : pos < s.size) (hf : s.size ≤ pos + fu) (e : ES) : ∃ f', s.size ≤ pos + 1 + f' ∧ ((Utf8.decode s pos).1 = 65533 → encGo s fu pos e = .error (pos, none)) ∧
    ((Utf8.decode s pos).1 ≠ 65533 → (encStep (Utf8.decode s pos).1 e = none → encGo s fu pos e = .error (pos, some 15)) ∧ ∀ e', encStep (Utf8.decode s pos).1 e = some e' → encGo s fu pos e = encGo s f' (pos + (Utf8.decode s pos).2) e') := by
  cases fu with
  | zero => omega
  | succ f => exact ⟨f, by omega, fun hc => by rw [encGo, if_pos h, if_pos hc], fun hc => ⟨fun hn => by rw [encGo, if_pos h, if_neg hc, hn], fun e' he => by rw [encGo, if_pos h, if_neg hc, he]⟩⟩

set_option maxHeartbeats 8000000 in
set_option maxRecDepth 100000 in
theorem encode_17 (l : Bs) (hl : l.length ≤ 140737488355000) (w : World) (hT : Tabs w) (hP : EncFits l) : Calls Tryd.prog 17 #[S l] w (EncodePost (encGo ⟨l.toArray⟩ l.length 0 ⟨[], 0, []⟩) w) := by
  have HT := Lib.hid hT
  clear hT
  obtain ⟨P, hP0, hPb, hPs⟩ := hP
  have HP0 := Lib.hid hP0
  have HPB := Lib.hid hPb
  have HPS := Lib.hid hPs
  clear hP0 hPb hPs
  have mixed : Tryd.prog.follows Departure.mixedOrders = true := by kernel_rfl
  go_enter Tryd.func17, Tryd.ntmps17
  go_wp2_with (first
    | (go_at_call 22; ((with_reducible refine Calls.mono (sets_at _ HT.out) ?_); rintro e w1 ⟨v, rfl, hs1, hb1⟩; have HS1 := Lib.hid hs1; obtain ⟨bs, m0, m1, m2, n0, n1, n2, rfl, hlt, -, -⟩ := hs1))
    | (go_at_call 23; ((with_reducible refine Calls.mono (uppers_23 _) ?_); rintro e w2 ⟨mu, nu, rfl, hmu, hb2, _, _⟩))
    | (go_at_call 33; ((with_reducible refine Calls.mono (reversed_33 _ _ _ _ swap_up.1 swap_up.2 _ hmu) ?_); rintro e w3 ⟨ru, ku, rfl, hru, hb3, _⟩; clear hmu))
    | (go_at_call 24; ((with_reducible refine Calls.mono (marks_24 _) ?_); rintro e w4 ⟨mm, nm, rfl, hmm, hb4, _, _⟩))
    | (go_at_call 33; ((with_reducible refine Calls.mono (reversed_33 _ _ _ _ swap_mk.1 swap_mk.2 _ hmm) ?_); rintro e w5 ⟨rm, km, rfl, hrm, hb5, _⟩)))
  have HSU : Hid (SetUp w5.heap.size bs ru rm w (w5.alloc (.cells #[.pointer none, .slice none 0 0, .slice (some ⟨bs, 0, none⟩) 3 3, .slice none 0 0, .map (some ru), .map (some rm), .int .i64 0, .slice none 0 0] 70)) 0 (.slice none 0 0)) := by
    have h1 := hb1.size
    have h2 := hb2.size
    have h3 := hb3.size
    have h4 := hb4.size
    have h5 := hb5.size
    have hb35 := btr (btr hb3 hb4 (by omega)) hb5 (by omega)
    have hb25 := btr hb2 hb35 (by omega)
    exact setUp_new (btr hb1 hb25 (by omega)) (HS1.out.below hb25) (hru.below (btr hb4 hb5 (by omega))) hrm
  have hEw : w.heap.size ≤ w5.heap.size := by have := hb1.size; have := hb2.size; have := hb3.size; have := hb4.size; have := hb5.size; omega
  have hbsE : bs < w5.heap.size := by have := hb2.size; have := hb3.size; have := hb4.size; have := hb5.size; omega
  clear hb1 hb2 hb3 hb4 hb5 hru hrm hmm HS1 hlt
  generalize (w5.alloc (.cells #[.pointer none, .slice none 0 0, .slice (some ⟨bs, 0, none⟩) 3 3, .slice none 0 0, .map (some ru), .map (some rm), .int .i64 0, .slice none 0 0] 70)) = w7 at *
  generalize w5.heap.size = E at *
  go_loopw [26] (fun i wr => ∃ (k : Nat) (v : Value), k ≤ 3 ∧ i = .int .i64 k ∧ Hid (SetUp E bs ru rm w wr k v)) (fun i _ => 3 - (intOf i).toNat)
  case atStart => exact ⟨0, _, by omega, rfl, HSU⟩
  case round =>
    obtain ⟨k, v, hk, rfl, HS⟩ := hrel
    by_cases hk3 : k < 3
    · have hk3' : (k : Int) < 3 := by omega
      have c0 := set_sign HS.out.sets hk3
      obtain ⟨m, mn, c1, hmb⟩ := set_map HS.out.sets hk3
      have HMB0 := Lib.hid hmb
      obtain ⟨rs, hown, hrs⟩ := HS.out.row
      have HOWN := Lib.hid hown
      have HRS := Lib.hid hrs
      have hE3 : wr.cell? ⟨E, 3, none⟩ = some v := by rw [Lib.cell_of_heap HS.out.cell]; rfl
      have hEz := HS.out.size
      generalize signOf k = sg at *
      clear hmb hown hrs
      obtain ⟨i0, hi, hz0, hz1, hz2⟩ := info_parts i66
      have HI := Lib.hid hi
      have HI0 := Lib.hid hz0
      have HI1 := Lib.hid hz1
      have HI2 := Lib.hid hz2
      clear hi hz0 hz1 hz2
      go_wp2_with fail
      have HRG : Hid (RegB E wr.heap.size m v ((wr.alloc (.cells #[.int .u8 sg, .map (some m)] 53)).drew)) := by
        constructor
        · show (wr.alloc _).cell? _ = _
          rw [alloc_old _ _ _ _ (by omega)]; exact hE3
        · exact cell_new_drew wr _ _ _ _ _ rfl rfl
      have HMB : Hid (MapB ((wr.alloc (.cells #[.int .u8 sg, .map (some m)] 53)).drew) m mn (tabF (setT k))) := Lib.hid (HMB0.out.maps (MapsKept.below ((alloc_below1 wr _).drew)))
      refine wp_region_T (fun w' => RegB E wr.heap.size m v w') 12 (by kernel_rfl) ?_
      refine anyT_take (i := 0) (v := ?_) rfl (by kernel_rfl) (by kernel_rfl) (by kernel_rfl) (by kernel_rfl) (by decide) (fun _ _ _ h => h) HRG.out (Or.inl ⟨by rfl, ?_⟩) ?_
      rotate_left
      · intro w' h; obtain ⟨h0, h1⟩ := h; go_simp; rfl
      refine anyT_take (i := 1) (v := ?_) rfl (by kernel_rfl) (by kernel_rfl) (by kernel_rfl) (by kernel_rfl) (by decide) (fun _ _ _ h => h) HRG.out (Or.inl ⟨by rfl, ?_⟩) ?_
      rotate_left
      · intro w' h; obtain ⟨h0, h1⟩ := h; go_simp; rfl
      refine anyT_take (i := 2) (v := ?_) rfl (by kernel_rfl) (by kernel_rfl) (by kernel_rfl) (by kernel_rfl) (by decide) (fun _ _ _ h => h) HRG.out (Or.inl ⟨by rfl, ?_⟩) ?_
      rotate_left
      · intro w' h; obtain ⟨h0, h1⟩ := h; go_simp; rfl
      refine anyT_take (i := 3) (v := ?_) rfl (by kernel_rfl) (by kernel_rfl) (by kernel_rfl) (by kernel_rfl) (by decide) (fun _ _ _ h => h) HRG.out (Or.inl ⟨by rfl, ?_⟩) ?_
      rotate_left
      · intro w' h; obtain ⟨h0, h1⟩ := h; go_simp; rfl
      refine anyT_take (i := 4) (v := ?_) rfl (by kernel_rfl) (by kernel_rfl) (by kernel_rfl) (by kernel_rfl) (by decide) (fun _ _ _ h => h) HRG.out (Or.inl ⟨by rfl, ?_⟩) ?_
      rotate_left
      · intro w' h; obtain ⟨h0, h1⟩ := h; go_simp; rfl
      refine anyT_take (i := 5) (v := ?_) rfl (by kernel_rfl) (by kernel_rfl) (by kernel_rfl) (by kernel_rfl) (by decide) (fun _ _ _ h => h) HRG.out (Or.inl ⟨by rfl, ?_⟩) ?_
      rotate_left
      · intro w' h; obtain ⟨h0, h1⟩ := h; go_simp; rfl
      refine anyT_take (i := 6) (v := ?_) rfl (by kernel_rfl) (by kernel_rfl) (by kernel_rfl) (by kernel_rfl) (by decide) (fun _ _ _ h => h) HRG.out (Or.inl ⟨by rfl, ?_⟩) ?_
      rotate_left
      · intro w' h; obtain ⟨h0, h1⟩ := h; go_simp; rfl
      refine anyT_do (i := 7) rfl (by kernel_rfl) rfl (fun K hK => ?_)
      go_simp
      (go_at_call 33; ((with_reducible refine Calls.mono (reversed_33 _ _ _ _ (swap_st k).1 (swap_st k).2 _ HMB.out) ?_); rintro e w6 ⟨r, rn, rfl, hr6, hb6, _⟩))
      have HR6 := Lib.hid hr6
      have HB6 := Lib.hid hb6
      refine hK _ _ (fun _ => HRG.out.below HB6.out) ?_
      clear hK K
      refine anyT_do (i := 8) rfl (by kernel_rfl) rfl (fun K hK => ?_)
      go_simp
      refine hK _ _ (fun _ => (HRG.out.below HB6.out).below (alloc_below1 _ _)) ?_
      clear hK K
      refine anyT_do (i := 9) rfl (by kernel_rfl) rfl (fun K hK => ?_)
      have hz6 := HB6.out.size
      have hz6' : wr.heap.size + 1 ≤ w6.heap.size := by simpa using hz6
      refine wp_append_lies _ _ _ 68 rfl (E + 1) 66 i0 (.map none) 1 8 Tryd.underlying68 HI.out HI0.out HI1.out HI2.out rfl (by omega) v k _ (by rfl) ((owns_keep HOWN.out (btr (alloc_below1 wr (.cells #[.int .u8 sg, .map (some m)] 53)).drew HB6.out (by simp))).alloc _) ⟨w6.heap.size, 0, none⟩ 1 1 [.map (some r)] (by rfl) rfl ?cells (by simp [Value.oneCell']) (by omega) (by unfold maxLen; omega) (by omega) (by simp; omega) _ rfl ?_
      case cells =>
        intro j u hj
        match j, hj with
        | 0, hj => simp at hj; subst hj; simp [Addr.add]
      intro q cap w8 hown8 hg8 hat8 hlt8
      have HO8 := Lib.hid hown8
      have HG8 := Lib.hid hg8
      have HAL := Lib.hid (btr (btr (alloc_below1 wr (.cells #[.int .u8 sg, .map (some m)] 53)).drew HB6.out (by simp)) (alloc_below1 w6 (.cells #[.map (some r)] 66)) (by omega))
      have HRG9 : Hid (RegB E wr.heap.size m v w8) := by
        have h2 := (HRG.out.below HB6.out).below (alloc_below1 w6 (.cells #[.map (some r)] 66))
        have hv := HOWN.out.lt
        constructor
        · rw [hg8.cell_far ⟨E, 3, none⟩ (by simp; omega) (fun e => by have := (hv E e.symm).1; omega)]; exact h2.c0
        · rw [hg8.cell_far ⟨wr.heap.size, 1, none⟩ (by simp; omega) (fun e => by have := (hv wr.heap.size e.symm).2; omega)]; exact h2.c1
      have e8 : w8.frozen? ⟨E, 3, none⟩ = false := by
        have hv := HOWN.out.lt
        have h1 : w8.heap[E]? = wr.heap[E]? := (hg8.block E (by simp; omega) (fun e => by have := (hv E e.symm).1; omega)).trans (HAL.out.block E (by omega))
        rw [World.frozen?_of_block (w := wr) h1]
        exact Lib.frozen_of_heap HS.out.cell 3
      have e8c := HRG9.out.c0
      clear hown8 hg8
      refine hK _ _ (fun _ => HRG9.out) ?_
      clear hK K
      refine anyT_do (i := 10) rfl (by kernel_rfl) rfl (fun K hK => ?_)
      go_simp
      refine hK _ _ (fun _ => HRG9.out) ?_
      clear hK K
      refine anyT_do (i := 11) rfl (by kernel_rfl) rfl (fun K hK => ?_)
      go_simp
      refine hK _ _ (fun _ => HRG9.out) ?_
      clear hK K
      refine anyT_do (i := 12) rfl (by kernel_rfl) rfl (fun K hK => ?_)
      go_simp
      refine hK _ _ (fun h => absurd rfl h) ?_
      clear hK K
      refine anyT_done (by kernel_rfl) ?_ _
      go_wp2_with fail
      go_roundw
      case rel =>
        exact ⟨k + 1, _, by omega, by go_num, Lib.hid (HS.out.more hEw hbsE HAL.out (HR6.out.below (alloc_below1 _ _)) HOWN.out HRS.out HG8.out HO8.out)⟩
      case measure => simp [intOf]; omega
    · have hk0 : k = 3 := by omega
      subst hk0
      go_wp2_with (go_at_call 34; ((with_reducible refine Calls.mono (composed_34 _) ?_); rintro e w8 ⟨mc, nc, rfl, hmc, hb8, _⟩))
      have HIT0 := Lib.hid (World.iter_heap w8 ⟨l.toArray⟩ 0)
      have HB9 : Below w8.heap.size w8 (w8.iter ⟨l.toArray⟩ 0) := alloc_below1 w8 (.stringIter ⟨l.toArray⟩ 0)
      obtain ⟨bb, cp, rfl, hst, hD, hbb⟩ := setUp_done (Z := w8.heap.size + 1) HS.out hEw hbsE (btr hb8 HB9 hb8.size) (by have := hb8.size; omega) (by show _ ≤ (w8.alloc (.stringIter ⟨l.toArray⟩ 0)).heap.size; simp) (hmc.maps (MapsKept.below HB9))
      have hI0 := HS.out.size
      have hI1 := hb8.size
      have HST := Lib.hid hst
      have HD := Lib.hid hD
      have hIE : w8.heap.size ≠ E := by omega
      have hIs : w8.heap.size ≠ bs := by omega
      have hIb : w8.heap.size ≠ bb := by omega
      have hIw : w.heap.size ≤ w8.heap.size := by omega
      have hlz : (⟨l.toArray⟩ : ByteArray).size = l.length := by simp [ByteArray.size]
      have HLZ := Lib.hid hlz
      clear hst hD hb8 hmc hbb hI0 hI1 HS HB9 hlz
      generalize (w8.iter ⟨l.toArray⟩ 0) = w9 at *
      generalize w8.heap.size = I at *
      go_loopw [46] (fun _ wx => ∃ (pos fu : Nat) (e : ES), pos ≤ l.length ∧ Hid (l.length ≤ pos + fu) ∧ wx.heap[I]? = some (.stringIter ⟨l.toArray⟩ pos) ∧ Hid (P pos e) ∧ Hid (encGo ⟨l.toArray⟩ l.length 0 ⟨[], 0, []⟩ = encGo ⟨l.toArray⟩ fu pos e) ∧ Hid (EncSt w.heap.size E (I + 1) bs bb cp ru rm mc w wx e)) (fun _ wx => l.length - wx.iterPos I)
      case atStart => exact ⟨0, l.length, ⟨[], 0, []⟩, by omega, Lib.hid (by omega), HIT0.out, HP0, Lib.hid rfl, HST⟩
      case round =>
        obtain ⟨pos, fu, e, hpl, HF, hit, HL, HG, HS⟩ := hrel
        have hpos0 := iterPos_of hit
        by_cases hp : pos < (⟨l.toArray⟩ : ByteArray).size
        · have hnx : ∀ ty, (Instr.next (.pointer (some ⟨I, 0, none⟩)) true ty).run Tryd.prog wr = _ := fun ty => Lib.run_next_any_at wr I ⟨l.toArray⟩ pos ty hit hp
          obtain ⟨hz1, hz2, hcl⟩ := dec_fact ⟨l.toArray⟩ pos hp
          obtain ⟨f', hf', hsb, hsg⟩ := encGo_step ⟨l.toArray⟩ pos fu hp (by rw [HLZ.out]; exact HF.out) e
          have HNXP : Hid (∀ e', (Utf8.decode ⟨l.toArray⟩ pos).1 ≠ 65533 → encStep (Utf8.decode ⟨l.toArray⟩ pos).1 e = some e' → P (pos + (Utf8.decode ⟨l.toArray⟩ pos).2) e') := fun e' h1 h2 => HPS.out _ _ _ hp HL.out h1 h2
          have hit2 := Lib.iterAt_heap wr I ⟨l.toArray⟩ pos (pos + (Utf8.decode ⟨l.toArray⟩ pos).2) hit
          have hs2 := HS.out.iter HD.out (by omega) hIw hIE hIs hIb hit (pos + (Utf8.decode ⟨l.toArray⟩ pos).2)
          have HSB := Lib.hid hsb
          have HSG := Lib.hid hsg
          have HS2 := Lib.hid hs2
          have HIT2 := Lib.hid hit2
          clear hsb hsg hs2 hit2 hit HS
          generalize (wr.iterAt I ⟨l.toArray⟩ (pos + (Utf8.decode ⟨l.toArray⟩ pos).2)) = W1 at *
          generalize (Utf8.decode ⟨l.toArray⟩ pos).2 = z at *
          generalize (Utf8.decode ⟨l.toArray⟩ pos).1 = c at *
          rw [HLZ.out] at hz2 hf' hp
          have HF' : Hid (l.length ≤ pos + z + f') := Lib.hid (by omega)
          have hbnd := HPB.out _ _ HL.out
          have HBN := Lib.hid hbnd
          clear hbnd hf'
          have hpI : (pos : Int) ≤ l.length := by omega
          by_cases hc : c = 65533
          · have hcc : ((c : Int) == 65533) = true := by simp; omega
            have HGB := Lib.hid (HG.out.trans (HSB.out hc))
            clear HNXP HSG HSB
            go_wp2_with (go_at_call 35; ((with_reducible refine Calls.mono (fullRune_35 _ (by simp; omega) _ (HT.out.below HS2.out.below)) ?_); rintro en w10 ⟨b, rfl, hb10⟩))
            have HBX := Lib.hid (btr HS2.out.below hb10 HS2.out.below.size)
            cases b with
            | true =>
              go_wp2_with (go_at_call_of 25 (Value.bool true); ((with_reducible refine Calls.mono (need_ok _ _ _) ?_); rintro e w6 ⟨rfl, rfl⟩))
              exact ⟨rfl, encPost_bad HGB.out (by decide) rfl HBX.out⟩
            | false =>
              go_wp2_with (go_at_call_of 25 (Value.bool false); ((with_reducible refine Calls.mono (need_bad _ _ _) ?_); rintro e w6 ⟨rfl, rfl⟩))
              exact ⟨rfl, encPost_bad HGB.out (by decide) rfl HBX.out⟩
          · have hcc : ((c : Int) == 65533) = false := by simp; omega
            have HSG := Lib.hid (HSG.out hc)
            have HNXP := Lib.hid (fun e' => HNXP.out e' hc)
            clear HSB
            obtain ⟨g, pa, pc, hH, hp0, hne0⟩ := HS2.out.cell
            have HH := Lib.hid hH
            have HP1 := Lib.hid hp0
            have HNE1 := Lib.hid hne0
            obtain ⟨_, _, _, e5, _, e7, fz⟩ := enc_fields hH
            have f7 := fz 7
            have hE1 : E < W1.heap.size := hH.old
            obtain ⟨nc', hcm⟩ := HS2.out.env.comp
            have hl1 := hcm.look c hcl
            obtain ⟨nm', hmk⟩ := HS2.out.env.mark
            have hl2 : ∀ o, (Instr.lookup 66 (.map (some rm)) (.int .i32 c) true).run Tryd.prog (W1.alloc o) = .ok (.tuple #[.int .u8 ((mkR c).getD 0 : Nat), .bool (mkR c).isSome]) (W1.alloc o) := fun o => (hmk.below (alloc_below1 _ o)).look c hcl
            clear hcm hmk hH hp0 hne0
            cases htc : tabC compT c with
            | some p =>
              obtain ⟨a, m⟩ := p
              obtain ⟨ha, hm⟩ := comp_lt htc
              have HST2 := Lib.hid (step_comp htc e)
              rw [htc] at hl1
              simp only [Option.getD_some, Option.isSome_some] at hl1
              obtain ⟨x1, y1, hl2⟩ : ∃ (x1 : Int) (y1 : Bool), ∀ o, (Instr.lookup 66 (.map (some rm)) (.int .i32 c) true).run Tryd.prog (W1.alloc o) = .ok (.tuple #[.int .u8 x1, .bool y1]) (W1.alloc o) := ⟨_, _, hl2⟩
              have HW2 := Lib.hid (HS2.out.keep HD.out (alloc_below1 W1 (.cells #[.int .i32 a, .int .i32 m] 73)))
              have HPUT := Lib.hid (put_36 HD.out e a pos ha _ HW2.out (by have := HBN.out; omega))
              clear htc
              cases hpt : putR a e with
              | none =>
                rw [hpt] at HPUT HST2
                go_wp2_with (go_at_call 36; ((with_reducible refine Calls.mono HPUT.out ?_); rintro en w3 ⟨rfl, hb3⟩))
                exact ⟨rfl, encPost_at (HG.out.trans (HSG.out.1 HST2.out)) rfl hb3⟩
              | some e1 =>
                rw [hpt] at HPUT HST2
                simp only at HST2
                have HST3 : Hid (encStep c e = some { e1 with pend := e1.pend ++ [UInt8.ofNat ((mkR m).getD 0)] }) := HST2.out
                go_wp2_with (go_at_call 36; ((with_reducible refine Calls.mono HPUT.out ?_); rintro en w3 ⟨rfl, hs3, hk3⟩))
                have HS3 := Lib.hid hs3
                have HK3 := Lib.hid hk3
                have HT3 : Hid (w3.heap[W1.heap.size]? = some (.cells #[.int .i32 a, .int .i32 m] 73 (0, 0))) := Lib.hid (hk3 _ _ Array.getElem?_push_size (by omega) (fun _ _ e2 => by injection e2 with _ e2; exact absurd e2 (by decide)))
                have HIT3 : Hid (w3.heap[I]? = some (.stringIter ⟨l.toArray⟩ (pos + z))) := Lib.hid (hk3 _ _ ((Below.heap_alloc W1 _ _ (Array.getElem?_eq_some_iff.1 HIT2.out).1).trans HIT2.out) hIE (fun _ _ e2 => by cases e2))
                obtain ⟨g4, pa4, pc4, hH4, hp4, hne4⟩ := hs3.cell
                have HH4 := Lib.hid hH4
                have HP4 := Lib.hid hp4
                have HNE4 := Lib.hid hne4
                obtain ⟨_, _, _, k5, _, k7, kfz⟩ := enc_fields hH4
                have HFZ4 := Lib.hid kfz
                have HT4 : Hid (∀ k, (Value.slice pa4 e1.pend.length pc4).ownBlock = some k → k ≠ W1.heap.size) := Lib.hid (fun k hk e2 => by
                  subst e2
                  rcases hp4.2 with ⟨h1, _⟩ | ⟨q, cap, cur, h1, _, hq, _⟩
                  · rw [h1] at hk; cases hk
                  · rw [h1] at hk
                    have e3 : q = W1.heap.size := by injection hk
                    rw [e3, HT3.out] at hq
                    injection hq with hq
                    injection hq with _ hq
                    exact absurd hq (by decide))
                have HMK4 : Hid (∃ n, MapR w3.drew rm n mkR) := Lib.hid (by obtain ⟨n, h⟩ := hs3.env.mark; exact ⟨n, h.maps (fun _ _ _ _ => rfl)⟩)
                have HL4 : Hid (e1.pend.length + 1 ≤ 140737488353000) := Lib.hid (by have := HPB.out _ _ (HNXP.out _ HST3.out); simp at this; omega)
                obtain ⟨x, hx⟩ : ∃ x, x = (mkR m).getD 0 := ⟨_, rfl⟩
                have HX := Lib.hid hx
                have HXL : Hid (x < 256) := Lib.hid (by rw [hx]; exact mk_lt m)
                rw [← hx] at HST3
                have hT1 : w3.cell? ⟨W1.heap.size, 1, none⟩ = some (.int .i32 m) := by rw [Lib.cell_of_heap HT3.out]; rfl
                have HRM : Hid (RegM E W1.heap.size rm m x (.slice pa4 e1.pend.length pc4) w3.drew) := Lib.hid (.of HMK4.out hx hm k7 k5 hT1)
                have hI5 : ∃ i, Tryd.prog.info? 5 = some i ∧ i.zero = some (.int .u8 0) ∧ i.size = 1 ∧ i.bytes = 1 := by
                  obtain ⟨i0, hi, hz0, hz1, hz2⟩ := info_parts i5
                  exact ⟨i0, hi, hz0, hz1, hz2⟩
                obtain ⟨i0, hi, hi0, hi1, hi2⟩ := hI5
                have HI := Lib.hid hi
                have HI0 := Lib.hid hi0
                have HI1 := Lib.hid hi1
                have HI2 := Lib.hid hi2
                clear hi hi0 hi1 hi2 hx hs3 hk3 hH4 hp4 hne4 kfz k5 k7 HPUT HST2 hl1 hl2 hpt
                go_wp2_with fail
                refine wp_region_T (fun w' => RegM E W1.heap.size rm m x (.slice pa4 e1.pend.length pc4) w') 16 (by kernel_rfl) ?_
                refine anyT_take (i := 0) (v := ?_) rfl (by kernel_rfl) (by kernel_rfl) (by kernel_rfl) (by kernel_rfl) (by decide) (fun _ _ _ h => h) HRM.out (Or.inl ⟨by rfl, ?_⟩) ?_
                rotate_left
                · intro w' h; obtain ⟨h0, h1, h2, h3⟩ := h; go_simp; rfl
                refine anyT_take (i := 1) (v := ?_) rfl (by kernel_rfl) (by kernel_rfl) (by kernel_rfl) (by kernel_rfl) (by decide) (fun _ _ _ h => h) HRM.out (Or.inl ⟨by rfl, ?_⟩) ?_
                rotate_left
                · intro w' h; obtain ⟨h0, h1, h2, h3⟩ := h; go_simp; rfl
                refine anyT_take (i := 2) (v := ?_) rfl (by kernel_rfl) (by kernel_rfl) (by kernel_rfl) (by kernel_rfl) (by decide) (fun _ _ _ h => h) HRM.out (Or.inl ⟨by rfl, ?_⟩) ?_
                rotate_left
                · intro w' h; obtain ⟨h0, h1, h2, h3⟩ := h; go_simp; rfl
                refine anyT_take (i := 3) (v := ?_) rfl (by kernel_rfl) (by kernel_rfl) (by kernel_rfl) (by kernel_rfl) (by decide) (fun _ _ _ h => h) HRM.out (Or.inl ⟨by rfl, ?_⟩) ?_
                rotate_left
                · intro w' h; obtain ⟨h0, h1, h2, h3⟩ := h; go_simp; rfl
                refine anyT_take (i := 4) (v := ?_) rfl (by kernel_rfl) (by kernel_rfl) (by kernel_rfl) (by kernel_rfl) (by decide) (fun _ _ _ h => h) HRM.out (Or.inl ⟨by rfl, ?_⟩) ?_
                rotate_left
                · intro w' h; obtain ⟨h0, h1, h2, h3⟩ := h; go_simp; rfl
                refine anyT_take (i := 5) (v := ?_) rfl (by kernel_rfl) (by kernel_rfl) (by kernel_rfl) (by kernel_rfl) (by decide) (fun _ _ _ h => h) HRM.out (Or.inl ⟨by rfl, ?_⟩) ?_
                rotate_left
                · intro w' h; obtain ⟨h0, h1, h2, h3⟩ := h; go_simp; rfl
                refine anyT_take (i := 6) (v := ?_) rfl (by kernel_rfl) (by kernel_rfl) (by kernel_rfl) (by kernel_rfl) (by decide) (fun _ _ _ h => h) HRM.out (Or.inl ⟨by rfl, ?_⟩) ?_
                rotate_left
                · intro w' h; obtain ⟨h0, h1, h2, h3⟩ := h; go_simp; rfl
                refine anyT_take (i := 7) (v := ?_) rfl (by kernel_rfl) (by kernel_rfl) (by kernel_rfl) (by kernel_rfl) (by decide) (fun _ _ _ h => h) HRM.out (Or.inl ⟨by rfl, ?_⟩) ?_
                rotate_left
                · intro w' h; obtain ⟨h0, h1, h2, h3⟩ := h; go_simp; rfl
                refine anyT_take (i := 8) (v := ?_) rfl (by kernel_rfl) (by kernel_rfl) (by kernel_rfl) (by kernel_rfl) (by decide) (fun _ _ _ h => h) HRM.out (Or.inl ⟨by rfl, ?_⟩) ?_
                rotate_left
                · intro w' h; obtain ⟨h0, h1, h2, h3⟩ := h; go_simp; rfl
                refine anyT_take (i := 9) (v := ?_) rfl (by kernel_rfl) (by kernel_rfl) (by kernel_rfl) (by kernel_rfl) (by decide) (fun _ _ _ h => h) HRM.out (Or.inl ⟨by rfl, ?_⟩) ?_
                rotate_left
                · intro w' h; obtain ⟨h0, h1, h2, h3⟩ := h; go_simp; rfl
                refine anyT_take (i := 10) (v := ?_) rfl (by kernel_rfl) (by kernel_rfl) (by kernel_rfl) (by kernel_rfl) (by decide) (fun _ _ _ h => h) HRM.out (Or.inl ⟨by rfl, ?_⟩) ?_
                rotate_left
                · intro w' h; obtain ⟨h0, h1, h2, h3⟩ := h; go_simp; rfl
                refine anyT_take (i := 11) (v := ?_) rfl (by kernel_rfl) (by kernel_rfl) (by kernel_rfl) (by kernel_rfl) (by decide) (fun _ _ _ h => h) HRM.out (Or.inl ⟨by rfl, ?_⟩) ?_
                rotate_left
                · intro w' h; obtain ⟨h0, h1, h2, h3⟩ := h; go_simp; rfl
                refine anyT_do (i := 12) rfl (by kernel_rfl) rfl (fun K hK => ?_)
                go_simp
                refine hK _ _ (fun _ => HRM.out.below HMK4.out HX.out hm (alloc_below1 _ _)) ?_
                clear hK K
                refine anyT_do (i := 13) rfl (by kernel_rfl) rfl (fun K hK => ?_)
                refine wp_append_lies _ _ _ 23 rfl (I + 1) 5 i0 (.int .u8 0) 1 1 Tryd.underlying23 HI.out HI0.out HI1.out HI2.out rfl (by omega) (.slice pa4 e1.pend.length pc4) e1.pend.length _ (by rfl) (HP4.out.alloc _) ⟨w3.heap.size, 0, none⟩ 1 1 [.int .u8 x] (by rfl) rfl ?cells (by simp [Value.oneCell']) (by omega) (by unfold maxLen; have := HL4.out; omega) (by have := HL4.out; omega) (by have := HS3.out.size; simp; omega) _ rfl ?_
                case cells =>
                  intro j u hj
                  match j, hj with
                  | 0, hj =>
                    simp at hj; subst hj
                    show (World.alloc w3.drew _).cell? ⟨w3.drew.heap.size, 0, none⟩ = _
                    rw [World.cell?_alloc_new]; rfl
                intro q cap w8 hown8 hg8 hat8 hlt8
                have HO8 := Lib.hid hown8
                have HG8 := Lib.hid hg8
                have HAL : Hid (Below w3.heap.size w3 (w3.drew.alloc (.cells #[.int .u8 x] 5))) := Lib.hid ((Below.refl _ w3).drew.alloc (Nat.le_refl _) _)
                have HPM := Lib.hid (EncSt.pendMore HD.out HS3.out HH4.out HP4.out HNE4.out HAL.out hg8 (b := x) HXL.out hown8 (by
                  rcases hat8 with h | h
                  · exact .inl (by rw [h]; rfl)
                  · exact .inr ⟨q, rfl, by rw [h]; simp⟩))
                have HRM9 : Hid (RegM E W1.heap.size rm m x (.slice pa4 e1.pend.length pc4) w8) := HRM.out.grown HMK4.out HX.out hm (alloc_below1 _ _) HP4.out HD.out.e HT4.out hg8
                have e8 : w8.frozen? ⟨E, 7, none⟩ = false := by
                  have hv := HP4.out.lt
                  have hDe := HD.out.e
                  have h1 : w8.heap[E]? = w3.heap[E]? := (hg8.block E (by have := HS3.out.size; simp; omega) (fun e2 => by have := (hv E e2.symm).1; omega)).trans (HAL.out.block E (by have := HS3.out.size; omega))
                  rw [World.frozen?_of_block (w := w3) h1]
                  exact HFZ4.out 7
                have e8c := HRM9.out.c0
                clear hown8 hg8
                refine hK _ _ (fun _ => HRM9.out) ?_
                clear hK K
                refine anyT_do (i := 14) rfl (by kernel_rfl) rfl (fun K hK => ?_)
                go_simp
                refine hK _ _ (fun _ => HRM9.out) ?_
                clear hK K
                refine anyT_do (i := 15) rfl (by kernel_rfl) rfl (fun K hK => ?_)
                go_simp
                refine hK _ _ (fun _ => HRM9.out) ?_
                clear hK K
                refine anyT_do (i := 16) rfl (by kernel_rfl) rfl (fun K hK => ?_)
                go_simp
                refine hK _ _ (fun h => absurd rfl h) ?_
                clear hK K
                refine anyT_done (by kernel_rfl) ?_ _
                go_wp2_with fail
                have HIT8 : Hid ((w8.setCell ⟨E, 7, none⟩ (.slice (some ⟨q, 0, none⟩) (e1.pend.length + 1) cap)).heap[I]? = some (.stringIter ⟨l.toArray⟩ (pos + z))) := Lib.hid (HPM.out.2 _ _ HIT3.out hIE (fun _ _ e2 => by cases e2))
                go_roundw
                case rel => exact ⟨pos + z, f', _, hz2, HF', HIT8.out, HNXP.out _ HST3.out, Lib.hid (HG.out.trans (HSG.out.2 _ HST3.out)), Lib.hid HPM.out.1⟩
                case measure => rw [hpos0, iterPos_of HIT8.out]; omega
            | none =>
              rw [htc] at hl1
              have hl1 : (Instr.lookup 71 (.map (some mc)) (.int .i32 c) true).run Tryd.prog W1 = .ok (.tuple #[.agg #[.int .i32 0, .int .i32 0], .bool false]) W1 := hl1
              have HW2 := Lib.hid (HS2.out.keep HD.out (alloc_below1 W1 (.cells #[.int .i32 0, .int .i32 0] 73)))
              have HIT3 : Hid ((W1.alloc (.cells #[.int .i32 0, .int .i32 0] 73)).heap[I]? = some (.stringIter ⟨l.toArray⟩ (pos + z))) := Lib.hid ((Below.heap_alloc W1 _ _ (Array.getElem?_eq_some_iff.1 HIT2.out).1).trans HIT2.out)
              cases hmr : mkR c with
              | some b =>
                rw [hmr] at hl2
                simp only [Option.getD_some, Option.isSome_some] at hl2
                have HST := Lib.hid (step_mark htc hmr e)
                have HBL := Lib.hid (mkR_lt hmr)
                clear htc hmr
                by_cases hpe : e.pend = []
                · rw [if_pos hpe] at HST
                  have hl0 : e.pend.length = 0 := by rw [hpe]; rfl
                  rw [hl0] at e7
                  go_wp2_with (go_at_call_of 25 (Value.bool false); ((with_reducible refine Calls.mono (need_bad _ _ _) ?_); rintro e w6 ⟨rfl, rfl⟩))
                  exact ⟨rfl, encPost_at (HG.out.trans (HSG.out.1 HST.out)) rfl HW2.out.below⟩
                · rw [if_neg hpe] at HST
                  have hl0 : 0 < e.pend.length := List.length_pos_iff.2 hpe
                  have hl0' : (0 : Int) < e.pend.length := by omega
                  have hI5 : ∃ i, Tryd.prog.info? 5 = some i ∧ i.zero = some (.int .u8 0) ∧ i.size = 1 ∧ i.bytes = 1 := by
                    obtain ⟨i0, hi, hz0, hz1, hz2⟩ := info_parts i5
                    exact ⟨i0, hi, hz0, hz1, hz2⟩
                  obtain ⟨i0, hi, hi0, hi1, hi2⟩ := hI5
                  have HI := Lib.hid hi
                  have HI0 := Lib.hid hi0
                  have HI1 := Lib.hid hi1
                  have HI2 := Lib.hid hi2
                  have HAL : Hid (Below W1.heap.size W1 ((W1.alloc (.cells #[.int .i32 0, .int .i32 0] 73)).alloc (.cells #[.int .u8 b] 5))) := Lib.hid (btr (alloc_below1 _ _) (alloc_below1 _ _) (by simp))
                  have HSZ := Lib.hid HS2.out.size
                  clear hi hi0 hi1 hi2 hpe
                  go_wp2_with (first
                    | (go_at_call_of 25 (Value.bool true); ((with_reducible refine Calls.mono (need_ok _ _ _) ?_); rintro e w6 ⟨rfl, rfl⟩))
                    | (at_builtin; refine wpList_append_lies _ rfl _ _ 23 rfl (I + 1) 5 i0 (.int .u8 0) 1 1 Tryd.underlying23 HI.out HI0.out HI1.out HI2.out rfl (by omega) (.slice pa e.pend.length pc) e.pend.length _ rfl ((HP1.out.alloc _).alloc _) ⟨W1.heap.size + 1, 0, none⟩ 1 1 [.int .u8 b] rfl rfl (one_new W1 _ b) (by simp [Value.oneCell']) (by omega) (by unfold maxLen; have := HBN.out; omega) (by have := HBN.out; omega) (by have := HSZ.out; simp; omega) _ rfl ?_; intro q cap w8 hown8 hg8 hat8 hlt8; have HO8 := Lib.hid hown8; have HG8 := Lib.hid hg8; have HAT8 := Lib.hid hat8; have e8 := pend_frozen HD.out HS2.out HH.out HP1.out HAL.out hg8; have e8c := pend_cell HD.out HS2.out HH.out HP1.out HAL.out hg8; clear hown8 hg8 hat8))
                  have HPM := Lib.hid (EncSt.pendMore HD.out HS2.out HH.out HP1.out HNE1.out HAL.out HG8.out (b := b) HBL.out HO8.out (by
                    rcases HAT8.out with h | h
                    · exact .inl (by rw [h]; rfl)
                    · exact .inr ⟨q, rfl, by rw [h]; simp; omega⟩))
                  have HIT8 : Hid ((w8.setCell ⟨E, 7, none⟩ (.slice (some ⟨q, 0, none⟩) (e.pend.length + 1) cap)).heap[I]? = some (.stringIter ⟨l.toArray⟩ (pos + z))) := Lib.hid (HPM.out.2 _ _ HIT2.out hIE (fun _ _ e2 => by cases e2))
                  go_roundw
                  case rel => exact ⟨pos + z, f', _, hz2, HF', HIT8.out, HNXP.out _ HST.out, Lib.hid (HG.out.trans (HSG.out.2 _ HST.out)), Lib.hid HPM.out.1⟩
                  case measure => rw [hpos0, iterPos_of HIT8.out]; omega
              | none =>
                rw [hmr] at hl2
                simp only [Option.getD_none, Option.isSome_none] at hl2
                by_cases hct : c < 32 ∧ c ≠ 27
                · have HST := Lib.hid (step_ctl htc hmr hct e)
                  have hc1 : (c : Int) < 32 := by omega
                  have hc2 : ((c : Int) == 27) = false := by simp; omega
                  have hcw : IntKind.u8.wrap (c : Int) = c := IntWalk.u8_in _ (by omega)
                  have HC8 : Hid ((c : Int) = (UInt8.ofNat c).toNat) := Lib.hid (by rw [UInt8.toNat_ofNat_of_lt' (show c < 256 by omega)])
                  have HFN := Lib.hid (finish_37 HD.out e _ HW2.out (by have := HBN.out; omega))
                  have HFL := Lib.hid (fin_len e)
                  clear htc hmr hct
                  go_wp2_with (first
                    | (go_at_call 37; ((with_reducible refine Calls.mono HFN.out ?_); rintro en w10 ⟨rfl, hs10, hk10⟩; have HS10 := Lib.hid hs10; have HK10 := Lib.hid hk10; obtain ⟨g10, pa10, pc10, hB10, hp10, hne10⟩ := hs10.cell; have HB10 := Lib.hid hB10; have HP10 := Lib.hid hp10; have HNE10 := Lib.hid hne10; clear hs10 hk10 hB10 hp10 hne10))
                    | (go_at_call 27; ((with_reducible refine Calls.mono (byte_at _ _ E g10 (finR e).out (UInt8.ofNat c) _ HC8.out _ HB10.out HS10.out.size (by have := HBN.out; have := HFL.out; omega)) ?_); rintro en w11 ⟨rfl, g11, hB11, hg11, hf11⟩)))
                  have HOM := Lib.hid (HS10.out.outMore HD.out HB10.out HP10.out HNE10.out hB11 hg11 hf11)
                  have HIT8 : Hid (w11.heap[I]? = some (.stringIter ⟨l.toArray⟩ (pos + z))) := Lib.hid (HOM.out.2 _ _ (HK10.out _ _ HIT3.out hIE (fun _ _ e2 => by cases e2)) hIE (fun _ _ e2 => by cases e2))
                  go_roundw
                  case rel => exact ⟨pos + z, f', _, hz2, HF', HIT8.out, HNXP.out _ HST.out, Lib.hid (HG.out.trans (HSG.out.2 _ HST.out)), Lib.hid HOM.out.1⟩
                  case measure => rw [hpos0, iterPos_of HIT8.out]; omega
                · have HST := Lib.hid (step_put htc hmr hct e)
                  have HPUT := Lib.hid (put_36 HD.out e c pos hcl _ HW2.out (by have := HBN.out; omega))
                  have hct2 : ¬ (c : Int) < 32 ∨ ((c : Int) < 32 ∧ ((c : Int) == 27) = true) := by
                    by_cases h : c < 32
                    · right
                      have : c = 27 := by
                        by_cases h2 : c = 27
                        · exact h2
                        · exact absurd ⟨h, h2⟩ hct
                      exact ⟨by omega, by simp; omega⟩
                    · left; omega
                  clear htc hmr hct
                  cases hpt : putR c e with
                  | none =>
                    rw [hpt] at HPUT HST
                    rcases hct2 with h1 | ⟨h1, h2⟩
                    all_goals
                      go_wp2_with (go_at_call 36; ((with_reducible refine Calls.mono HPUT.out ?_); rintro en w3 ⟨rfl, hb3⟩))
                      exact ⟨rfl, encPost_at (HG.out.trans (HSG.out.1 HST.out)) rfl hb3⟩
                  | some e1 =>
                    rw [hpt] at HPUT HST
                    rcases hct2 with h1 | ⟨h1, h2⟩
                    all_goals
                      go_wp2_with (go_at_call 36; ((with_reducible refine Calls.mono HPUT.out ?_); rintro en w3 ⟨rfl, hs3, hk3⟩))
                      have HIT8 : Hid (w3.heap[I]? = some (.stringIter ⟨l.toArray⟩ (pos + z))) := Lib.hid (hk3 _ _ HIT3.out hIE (fun _ _ e2 => by cases e2))
                      have HS3 := Lib.hid hs3
                      clear hs3 hk3
                      go_roundw
                      case rel => exact ⟨pos + z, f', _, hz2, HF', HIT8.out, HNXP.out _ HST.out, Lib.hid (HG.out.trans (HSG.out.2 _ HST.out)), HS3⟩
                      case measure => rw [hpos0, iterPos_of HIT8.out]; omega
        · have hnx : ∀ ty, (Instr.next (.pointer (some ⟨I, 0, none⟩)) true ty).run Tryd.prog wr = _ := fun ty => Lib.run_next_end_at wr I ⟨l.toArray⟩ pos ty hit hp
          have HGE := Lib.hid (HG.out.trans (encGo_end _ _ hp e fu))
          have HFN := Lib.hid (finish_37 HD.out e wr HS.out (by have := HPB.out _ _ HL.out; omega))
          have HFL := Lib.hid (fin_len e)
          have HTO : Hid (∀ W, EncSt w.heap.size E (I + 1) bs bb cp ru rm mc w W (finR e) → Calls Tryd.prog 38 #[.pointer (some ⟨E, 0, none⟩), .int .i64 0] W (EncPost w.heap.size E (I + 1) bs bb cp ru rm mc w W (toR 0 (finR e)))) := fun W hW => to_38 HD.out (finR e) 0 (by omega) W hW (by have := HPB.out _ _ HL.out; have := HFL.out; omega)
          have HTL : Hid ((toR 0 (finR e)).out.length ≤ 140737488355000) := Lib.hid (by
            have := HPB.out _ _ HL.out; have := HFL.out
            unfold toR; split
            · omega
            · simp; omega)
          go_wp2_with (first
            | (go_at_call 37; ((with_reducible refine Calls.mono HFN.out ?_); rintro en w10 ⟨rfl, hs10, _⟩; have HS10 := Lib.hid hs10; clear hs10))
            | (go_at_call 38; ((with_reducible refine Calls.mono (HTO.out _ HS10.out) ?_); rintro en w11 ⟨rfl, hs11, _⟩; have HS11 := Lib.hid hs11; obtain ⟨g11, _, hB11, _⟩ := hs11.ex; have HB11 := Lib.hid hB11; clear hB11 hs11))
            | (go_at_call 31; ((with_reducible refine Calls.mono (string_31 _ _ E g11 (toR 0 (finR e)).out _ HB11.out (by have := HTL.out; omega)) ?_); rintro en w12 ⟨rfl, hf12⟩)))
          go_ret
          exact encPost_ok HGE.out rfl (HS11.out.below.trans (HB11.out.fr (hf12.fr _) HD.out.b))
end Go.Proofs.YtpkacoknpedolaaDoor
