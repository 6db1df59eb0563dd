/-
  The memory of a strings.Builder that the call itself made, in a block of its own: its row of bytes; the writers' contracts.
-/
import Derived.Test.YtgdkdihedgiegaaDoorC6
import Derived.Lib.AppendStr
import Derived.Lib.UnsafeStr
import Derived.Lib.Builder
import Derived.WalkLawsBesides
import Derived.Laws.IdiomStrings
import Derived.Shelf.Strings.Builder1
import Derived.Deep.RegionHeld3
import Derived.Deep.RegionWith
import Derived.Deep.DrawnRows
namespace Go.Proofs.YtgdkdihedgiegaaDoor
open Go.RowKit

theorem ret_S {a b : Bs} (h : a = b) : Ending.returned (S a) = .returned (S b) := by rw [h]
set_option maxHeartbeats 1000000 in
set_option maxRecDepth 100000 in
theorem check_used (b : Nat) (w : World) (h0 : w.cell? ⟨b, 0, none⟩ = some (.pointer (some ⟨b, 0, none⟩))) :
    Calls Tryd.prog 70 #[.pointer (some ⟨b, 0, none⟩)] w fun e w' => e = .returned (.tuple #[]) ∧ w' = w := by
  obtain ⟨j, hj, _⟩ := Option.map_eq_some_iff.1 (show (Tryd.prog.info? 99).map (·.size) = some 2 by kernel_rfl)
  go_enter Tryd.func70, Tryd.ntmps70
  go_wp2
  rw [Lib.run_neq_ptr_same w _ Tryd.underlying97 hj]
  go_wp2
  go_end0
  exact ⟨rfl, rfl⟩
theorem lies99 : liesAt Tryd.prog Tryd.prog.depth 99 (2 / Tryd.prog.cellsOf 99) 0 99 1 = true := by kernel_rfl
set_option maxHeartbeats 1000000 in
set_option maxRecDepth 100000 in
theorem check_fresh (K : TypeId × List Value) (v : Value) (b : Nat) (w : World) (h0 : w.cell? ⟨b, 0, none⟩ = some (.pointer none)) (hk : K = (99, [])) (hb : w.heap[b]? = some (.cells (.pointer none :: v :: K.2).toArray K.1 (0, 0))) :
    Calls Tryd.prog 70 #[.pointer (some ⟨b, 0, none⟩)] w fun e w' => e = .returned (.tuple #[]) ∧ w' = w.setCell ⟨b, 0, none⟩ (.pointer (some ⟨b, 0, none⟩)) := by
  obtain ⟨j, hj, hjs⟩ := Option.map_eq_some_iff.1 (show (Tryd.prog.info? 99).map (·.size) = some 2 by kernel_rfl)
  have hfz : w.frozen? ⟨b, 0, none⟩ = false := Lib.frozen_of_heap hb 0
  obtain ⟨e, c, hsh, hc, hl⟩ : ∃ e c, w.shape? b = some (e, c) ∧ 0 < c ∧ liesAt Tryd.prog Tryd.prog.depth e (c / Tryd.prog.cellsOf e) 0 99 1 = true := by
    subst hk
    exact ⟨99, 2, by simp [World.shape?, hb], by omega, lies99⟩
  clear hb
  go_enter Tryd.func70, Tryd.ntmps70
  go_wp2
  rw [Lib.run_to_unsafe w ⟨b, 0, none⟩ Tryd.underlying97 Tryd.underlying133 hj (by rw [hjs]; decide) hsh hc]
  simp only [Result.andThen]
  rw [Oper.upon_value]
  go_wp2
  rw [run_callFunc_extern Tryd.func86 (by kernel_rfl) (by kernel_rfl) (by kernel_rfl) (e := Extern.AbiNoEscape.same) (by kernel_rfl)]
  rw [Lib.run_noEscape]
  simp only [Result.andThen]
  rw [Oper.upon_value]
  go_wp2
  rw [Lib.run_from_unsafe w ⟨b, 0, none⟩ Tryd.underlying133 Tryd.underlying97 hj hsh hl]
  simp only [Result.andThen]
  rw [Oper.upon_value]
  go_wp2
  go_end0
  exact ⟨rfl, rfl⟩
/-- Nothing but block b and row g has turned. -/
structure Fr (b : Nat) (g : Option Nat) (w w' : World) : Prop where
  os : w'.os = w.os
  tape : w'.tape = w.tape
  output : w'.output = w.output
  size : w.heap.size ≤ w'.heap.size
  block : ∀ k, k < w.heap.size → k ≠ b → some k ≠ g → w'.heap[k]? = w.heap[k]?
theorem Fr.refl (b : Nat) (g : Option Nat) (w : World) : Fr b g w w := ⟨rfl, rfl, rfl, Nat.le_refl _, fun _ _ _ _ => rfl⟩
theorem Fr.below {b B : Nat} {g : Option Nat} {w w' : World} (h : Fr b g w w') (hb : B ≤ b) (hg : ∀ k, g = some k → B ≤ k) (hB : B ≤ w.heap.size) : Below B w w' :=
  ⟨h.os, h.tape, h.output, h.size, fun k hk => h.block k (by omega) (by omega) (fun e => by have := hg k e.symm; omega)⟩
/-- A builder that holds l: its block b, its row g. -/
structure Bld (K : TypeId × List Value) (B b : Nat) (g : Option Nat) (l : Bs) (w : World) : Prop where
  lt : b < B
  kind : K = (99, [])
  ex : ∃ p v, w.heap[b]? = some (.cells (p :: v :: K.2).toArray K.1 (0, 0)) ∧ (p = .pointer none ∨ p = .pointer (some ⟨b, 0, none⟩)) ∧ w.ownsRow B 5 1 v l.length (Lib.byteCells l) ∧ v.ownBlock = g ∧ (l = [] → v = .slice none 0 0)
/-- Appending a string's bytes, and where the new slice lies. -/
theorem run_str_at (w : World) (base : Nat) (i : TypeInfo) (hi : Tryd.prog.info? 5 = some i) (hz : i.zero = some (.int .u8 0)) (hsize : i.size = 1) (hby : i.bytes = 1)
    (v : Value) (n : Nat) (xs : List Value) (hown : w.ownsRow base 5 1 v n xs) (s : ByteArray) (h63 : n + s.size ≤ maxLen) (hbytes : n + s.size ≤ 140737488355328) (hbase : base ≤ w.heap.size) :
    ∃ v' w', (Builtin.append_ #[51, 9] 51 #[v, .string s]).run Tryd.prog w = .ok v' w' ∧ w'.ownsRow base 5 1 v' (n + s.size) (xs ++ Lib.strCells s) ∧ w.grownBy w' v.ownBlock ∧
      (v' = .slice none 0 0 ↔ v = .slice none 0 0 ∧ s.size = 0) ∧ (v'.ownBlock = v.ownBlock ∨ ∃ k, v'.ownBlock = some k ∧ w.heap.size ≤ k) := by
  obtain ⟨v', w', hr, h2, h3, h4⟩ := Lib.run_append_own_string (P := Tryd.prog) w base 51 9 51 5 i Tryd.underlying51 Tryd.underlying9 hi hz hsize hby v n xs hown s h63 hbytes hbase
  refine ⟨v', w', hr, h2, h3, h4, ?_⟩
  have hxl : xs.length = n := by simpa using hown.1
  have hsmall : n + s.size ≤ 9223372036854775807 := by unfold maxLen at h63; omega
  rcases hown.2 with ⟨rfl, rfl⟩ | ⟨g, cap, cur, rfl, hbg, hg, hnc, hcm, hcs, htake⟩
  · obtain ⟨v2, w2, hr2, g2, _, _⟩ := Lib.run_append_own_string (P := Tryd.prog) w w.heap.size 51 9 51 5 i Tryd.underlying51 Tryd.underlying9 hi hz hsize hby (.slice none 0 0) 0 xs ⟨hown.1, .inl ⟨rfl, rfl⟩⟩ s h63 hbytes (Nat.le_refl _)
    rw [hr] at hr2
    injection hr2 with hv hw
    subst hv hw
    rcases g2.2 with ⟨he, _⟩ | ⟨k, _, _, he, hk, _⟩
    · left; rw [he]
    · right; exact ⟨k, by rw [he]; rfl, hk⟩
  · have hcur : cur.size = cap := by simpa using hcs
    by_cases hroom : n + s.size ≤ cap
    · have hr2 := Lib.run_append_room_string (P := Tryd.prog) w 51 9 51 5 i Tryd.underlying51 Tryd.underlying9 hi hsize g n cap cur hg s hroom (hcur.symm ▸ hroom)
      rw [hr] at hr2
      injection hr2 with hv hw
      left; rw [hv]; rfl
    · have holds : ∀ j u, xs[j]? = some u → w.cell? ((⟨g, 0, none⟩ : Addr).add j) = some u := hown.cells (g := g) rfl
      have hr2 := Lib.run_append_grow_string (P := Tryd.prog) w 51 9 51 5 i (.int .u8 0) Tryd.underlying51 Tryd.underlying9 hi hz ⟨g, 0, none⟩ n cap xs (by rw [hsize]; simpa using hxl) holds s (by omega) (by omega) (by rw [hby]; exact growslice_fits (by omega) (by omega))
      rw [hr] at hr2
      injection hr2 with hv hw
      right; exact ⟨w.heap.size, by rw [hv]; rfl, Nat.le_refl _⟩
theorem wpList_str_at {w : World} {ops : Array Oper} {rest : List Oper} {o : Oper} {a : Act} {Q : Exit → Act → World → Prop} (hgd : o.guard = none) (sl x : Operand)
    (ho : o.op = .call { callee := .builtin .append, args := #[sl, x], argTypes := #[51, 9] }) (hty : o.type = 51)
    (base : Nat) (i : TypeInfo) (hi : Tryd.prog.info? 5 = some i) (hz : i.zero = some (.int .u8 0)) (hsize : i.size = 1) (hby : i.bytes = 1)
    (v : Value) (n : Nat) (xs : List Value) (hs : a.eval sl = v) (hown : w.ownsRow base 5 1 v n xs) (s : ByteArray) (hx : a.eval x = .string s)
    (h63 : n + s.size ≤ maxLen) (hbytes : n + s.size ≤ 140737488355328) (hbase : base ≤ w.heap.size)
    (h : ∀ v' w', w'.ownsRow base 5 1 v' (n + s.size) (xs ++ Lib.strCells s) → w.grownBy w' v.ownBlock → (v' = .slice none 0 0 ↔ v = .slice none 0 0 ∧ s.size = 0) → (v'.ownBlock = v.ownBlock ∨ ∃ k, v'.ownBlock = some k ∧ w.heap.size ≤ k) → wpList Tryd.prog ops Q rest (a.put o.dst v') w') : wpList Tryd.prog ops Q (o :: rest) a w := by
  refine wpList_plain hgd fun K hK => ?_
  obtain ⟨v', w', hr, h2, h3, h4, h5⟩ := run_str_at w base i hi hz hsize hby v n xs hown s h63 hbytes hbase
  unfold Oper.wp execOp
  simp only [ho, hty, resolve, invoke, builtin, Sem.run_bind, Sem.run_pure, Result.andThen_ok, List.map_toArray, List.map_cons, List.map_nil, hs, hx, hr]
  exact hK _ _ (h v' w' h2 h3 h4 h5)
theorem strCells_bs (l : Bs) : Lib.strCells ⟨l.toArray⟩ = Lib.byteCells l := by simp [Lib.strCells, Lib.byteCells]
theorem byteCells_app (a b : Bs) : Lib.byteCells (a ++ b) = Lib.byteCells a ++ Lib.byteCells b := by simp [Lib.byteCells]
/-- copyCheck: behind it the builder holds its own address. -/
theorem check_70 (K : TypeId × List Value) (B b : Nat) (g : Option Nat) (l : Bs) (w : World) (h : Bld K B b g l w) : Calls Tryd.prog 70 #[.pointer (some ⟨b, 0, none⟩)] w fun e w' => e = .returned (.tuple #[]) ∧ (∃ v, w'.heap[b]? = some (.cells (.pointer (some ⟨b, 0, none⟩) :: v :: K.2).toArray K.1 (0, 0)) ∧ w'.ownsRow B 5 1 v l.length (Lib.byteCells l) ∧ v.ownBlock = g ∧ (l = [] → v = .slice none 0 0)) ∧ w'.heap.size = w.heap.size ∧ Fr b none w w' := by
  obtain ⟨hlt, hkd, p, v, hb, hp, hown, hg, hn⟩ := h
  have c0 : w.cell? ⟨b, 0, none⟩ = some p := by rw [Lib.cell_of_heap hb]; rfl
  rcases hp with rfl | rfl
  · refine (check_fresh K v b w c0 hkd hb).mono ?_
    rintro e w' ⟨rfl, rfl⟩
    refine ⟨rfl, ⟨v, ?_, ownsRow_setCell_below hown hlt _, hg, hn⟩, by simp, ⟨rfl, rfl, rfl, by simp, fun k _ hk _ => Below.heap_setCell _ _ _ _ hk⟩⟩
    simp only [World.setCell, Array.getElem?_modify, if_true, hb]
    rfl
  · refine (check_used b w c0).mono ?_
    rintro e w' ⟨rfl, rfl⟩
    exact ⟨rfl, ⟨v, hb, hown, hg, hn⟩, rfl, Fr.refl _ _ _⟩
/-- Behind the append and the store. -/
theorem bld_store {K : TypeId × List Value} {B b : Nat} {w1 w2 : World} {p v v' : Value} {l' : Bs} (hlt : b < B) (hkd : K = (99, [])) (hp : p = .pointer (some ⟨b, 0, none⟩)) (hb : w1.heap[b]? = some (.cells (p :: v :: K.2).toArray K.1 (0, 0))) (hown : ∀ k, v.ownBlock = some k → B ≤ k)
    (h2 : w2.ownsRow B 5 1 v' l'.length (Lib.byteCells l')) (hgr : w1.grownBy w2 v.ownBlock) (hn : l' = [] → v' = .slice none 0 0) :
    Bld K B b v'.ownBlock l' (w2.setCell ⟨b, 1, none⟩ v') ∧ Fr b v.ownBlock w1 (w2.setCell ⟨b, 1, none⟩ v') := by
  obtain ⟨hos, htp, hout, hsz, hbl⟩ := hgr
  have hbs : b < w1.heap.size := (Array.getElem?_eq_some_iff.mp hb).1
  have hne : some b ≠ v.ownBlock := fun e => by have := hown b e.symm; omega
  have hb2 : w2.heap[b]? = some (.cells (p :: v :: K.2).toArray K.1 (0, 0)) := by rw [hbl b hbs hne, hb]
  refine ⟨⟨hlt, hkd, ⟨p, v', ?_, .inr hp, ownsRow_setCell_below h2 hlt _, rfl, hn⟩⟩, ⟨hos, htp, hout, by simpa using hsz, fun k hk hkb hkg => ?_⟩⟩
  · simp only [World.setCell, Array.getElem?_modify, if_true, hb2]
    rfl
  · rw [Below.heap_setCell _ _ _ _ hkb]
    exact hbl k hk hkg
theorem own_base {w : World} {B : Nat} {e : TypeId} {k : Nat} {v : Value} {n : Nat} {xs : List Value} (h : w.ownsRow B e k v n xs) : ∀ j, v.ownBlock = some j → B ≤ j ∧ j < w.heap.size := by
  intro j hj
  rcases h.2 with ⟨rfl, _⟩ | ⟨g, cap, cur, rfl, hg, hh, _⟩
  · cases hj
  · injection hj with hj; subst hj; exact ⟨hg, (Array.getElem?_eq_some_iff.mp hh).1⟩
theorem Fr.trans {b : Nat} {g g' : Option Nat} {x y z : World} (h : Fr b g x y) (k : Fr b g' y z) (hg : ∀ j, g' = some j → g = some j ∨ x.heap.size ≤ j) : Fr b g x z :=
  ⟨k.os.trans h.os, k.tape.trans h.tape, k.output.trans h.output, Nat.le_trans h.size k.size, fun j hj hb hn =>
    (k.block j (Nat.lt_of_lt_of_le hj h.size) hb (fun e => by rcases hg j e.symm with e1 | e1; exact hn e1.symm; omega)).trans (h.block j hj hb hn)⟩
theorem Fr.weak {b : Nat} {g : Option Nat} {x y : World} (h : Fr b none x y) : Fr b g x y := ⟨h.os, h.tape, h.output, h.size, fun j hj hb _ => h.block j hj hb (by simp)⟩
theorem gr_alloc {B : Nat} {e : TypeId} {k : Nat} {w w2 : World} {v : Value} {n : Nat} {xs : List Value} {o : Obj} (_ : w.ownsRow B e k v n xs) (hg : (w.alloc o).grownBy w2 v.ownBlock) : w.grownBy w2 v.ownBlock :=
  ⟨hg.os, hg.tape, hg.output, Nat.le_trans (by simp) hg.size, fun j hj hn => by rw [hg.block j (by simp; omega) hn]; exact ((Below.refl w.heap.size w).alloc (Nat.le_refl _) o).block j hj⟩
theorem bld_kept {K : TypeId × List Value} {B b : Nat} {w1 w2 : World} {p v : Value} {n : Nat} {xs : List Value} (hlt : b < B) (hb : w1.heap[b]? = some (.cells (p :: v :: K.2).toArray K.1 (0, 0))) (hown : w1.ownsRow B 5 1 v n xs) (hgr : w1.grownBy w2 v.ownBlock) :
    w2.heap[b]? = some (.cells (p :: v :: K.2).toArray K.1 (0, 0)) := by
  rw [hgr.block b (Array.getElem?_eq_some_iff.mp hb).1 (fun e => by have := (own_base hown b e.symm).1; omega), hb]
set_option maxHeartbeats 4000000 in
set_option maxRecDepth 100000 in
theorem write_56 (K : TypeId × List Value) (B b : Nat) (g : Option Nat) (l s : Bs) (w : World) (h : Bld K B b g l w) (hB : B ≤ w.heap.size) (hs : l.length + s.length ≤ 140737488355000) :
    Calls Tryd.prog 56 #[.pointer (some ⟨b, 0, none⟩), S s] w fun e w' => e = .returned (.tuple #[.int .i64 s.length, .nilIface]) ∧ ∃ g', Bld K B b g' (l ++ s) w' ∧ (g' = g ∨ ∃ k, g' = some k ∧ w.heap.size ≤ k) ∧ Fr b g w w' := by
  have H70 := Lib.hid (check_70 K B b g l w h)
  have i5' : ∃ i, Tryd.prog.info? 5 = some i ∧ i.zero = some (.int .u8 0) ∧ i.size = 1 ∧ i.bytes = 1 := by
    have := i5
    revert this
    cases Tryd.prog.info? 5 <;> simp
  obtain ⟨i0, hi0, hi1, hi2, hi3⟩ := i5'
  have HI0 := Lib.hid hi0
  have HI1 := Lib.hid hi1
  have HI2 := Lib.hid hi2
  have HI3 := Lib.hid hi3
  have HLT := h.lt
  have HKD := Lib.hid h.kind
  clear h hi0 hi1 hi2 hi3
  have HL := Lib.hid hs
  go_enter Tryd.func56, Tryd.ntmps56
  go_wp2_with (first
    | (go_at_call 70; ((with_reducible refine Calls.mono (H70.out) ?_); rintro e w1 ⟨rfl, ⟨v, hb1, hown, hg, hn⟩, hz, hfr⟩; have c1 : w1.cell? ⟨b, 1, none⟩ = some v := (by rw [Lib.cell_of_heap hb1]; rfl); have HB1 := Lib.hid hb1; have HOWN := Lib.hid hown; have HG := Lib.hid hg; have HN := Lib.hid hn; have HZ := Lib.hid hz; have HFR := Lib.hid hfr; clear hb1 hown hg hn hz hfr))
    | (at_builtin; refine wpList_str_at rfl _ _ rfl rfl B i0 HI0.out HI1.out HI2.out HI3.out v l.length _ rfl HOWN.out ⟨s.toArray⟩ rfl (by have := HL.out; unfold maxLen; simp [ByteArray.size]; omega) (by have := HL.out; simp [ByteArray.size]; omega) (by have := HZ.out; omega) ?_; intro v' w2 hown2 hgw hnil hat; obtain ⟨va, vc, rfl⟩ := row_shape hown2; have hb2 := bld_kept HLT HB1.out HOWN.out hgw; have c2 : w2.cell? ⟨b, 1, none⟩ = some v := (by rw [Lib.cell_of_heap hb2]; rfl); have f2 : w2.frozen? ⟨b, 1, none⟩ = false := Lib.frozen_of_heap hb2 1; clear hb2; have HO2 := Lib.hid hown2; have HG2 := Lib.hid hgw; have HNI := Lib.hid hnil; have HAT := Lib.hid hat; clear hown2 hgw hnil hat))
  go_ret2
  have hlen : l.length + ByteArray.size ⟨s.toArray⟩ = (l ++ s).length := by simp [ByteArray.size]
  have ho2 := HO2.out
  rw [strCells_bs, ← byteCells_app, hlen] at ho2
  have hn2 : l ++ s = [] → Value.slice va (l.length + ByteArray.size ⟨s.toArray⟩) vc = .slice none 0 0 := fun e => by
    have h1 : l = [] := by cases l; rfl; simp at e
    have h2 : s = [] := by subst h1; simpa using e
    exact HNI.out.mpr ⟨HN.out h1, by subst h2; rfl⟩
  rw [hlen] at hn2
  obtain ⟨x1, x2⟩ := bld_store HLT HKD.out rfl HB1.out (fun k hk => (own_base HOWN.out k hk).1) ho2 HG2.out hn2
  simp only [List.length_append] at x1 x2
  refine ⟨?_, _, x1, ?_, HFR.out.weak.trans (HG.out ▸ x2) (fun j hj => .inl hj)⟩
  · simp
  · have hat := HAT.out
    rw [HG.out, HZ.out] at hat
    simpa [ByteArray.size] using hat

/-- String: what is read is what was written; the row lies frozen behind it. -/
def Strd (g : Option Nat) (n : Nat) (w w' : World) : Prop := w' = w.drew ∨ ∃ k, g = some k ∧ w' = w.drew.freeze ⟨k, 0, none⟩ n
theorem freeze_fr (b k n : Nat) (w : World) : Fr b (some k) w (w.freeze ⟨k, 0, none⟩ n) := by
  unfold World.freeze
  split
  · exact ⟨rfl, rfl, rfl, Nat.le_refl _, fun _ _ _ _ => rfl⟩
  · refine ⟨rfl, rfl, rfl, by simp, fun j _ _ hg => ?_⟩
    have : k ≠ j := fun e => hg (by rw [e])
    simp [Array.getElem?_modify, this]
theorem Strd.fr {g : Option Nat} {n : Nat} {w w' : World} (b : Nat) (h : Strd g n w w') : Fr b g w w' := by
  rcases h with rfl | ⟨k, rfl, rfl⟩
  · exact ⟨rfl, rfl, rfl, Nat.le_refl _, fun _ _ _ _ => rfl⟩
  · have h := freeze_fr b k n w.drew
    exact ⟨h.os, h.tape, h.output, h.size, h.block⟩
set_option maxHeartbeats 4000000 in
set_option maxRecDepth 100000 in
theorem string_57 (K : TypeId × List Value) (B b : Nat) (g : Option Nat) (l : Bs) (w : World) (h : Bld K B b g l w) (hs : l.length ≤ 140737488355000) :
    Calls Tryd.prog 57 #[.pointer (some ⟨b, 0, none⟩)] w fun e w' => e = .returned (S l) ∧ Strd g l.length w w' := by
  obtain ⟨hlt, hkd, p, v, hb, hp, hown, hg, hn⟩ := h
  have mixed : Tryd.prog.follows Departure.mixedOrders = true := by kernel_rfl
  rcases hown.2 with ⟨rfl, hl0⟩ | ⟨k, cap, cur, rfl, hbk, hk, hnc, hcm, hcs, htake⟩
  · obtain rfl : l = [] := List.eq_nil_of_length_eq_zero hl0
    have c1 : w.drew.cell? ⟨b, 1, none⟩ = some (.slice none 0 0) := by
      have : w.drew.heap[b]? = some (.cells (p :: .slice none 0 0 :: K.2).toArray K.1 (0, 0)) := hb
      rw [Lib.cell_of_heap this]; rfl
    have hSD : (Builtin.unsafeSliceData_ #[51] 115 #[.slice none 0 0]).run Tryd.prog w.drew = .ok (.pointer none) w.drew := rfl
    have hUS : (Builtin.unsafeString_ #[115, 3] 9 #[.pointer none, .int .i64 0]).run Tryd.prog w.drew = .ok (.string .empty) w.drew := Lib.run_unsafeString_none w.drew _ _ _ _
    clear hown hn hg hp hb
    go_enter Tryd.func57, Tryd.ntmps57
    go_wp2
    go_region_o
    all_goals (go_wp2; go_ret; exact ⟨rfl, .inl rfl⟩)
  · have h0 : l ≠ [] := fun e => by cases hn e
    have hcap : cap ≠ 0 := by
      have : l.length ≠ 0 := by simpa using h0
      omega
    have hcur : cur.size = cap := by simpa using hcs
    have c1 : w.drew.cell? ⟨b, 1, none⟩ = some (.slice (some ⟨k, 0, none⟩) l.length cap) := by
      have : w.drew.heap[b]? = some (.cells (p :: .slice (some ⟨k, 0, none⟩) l.length cap :: K.2).toArray K.1 (0, 0)) := hb
      rw [Lib.cell_of_heap this]; rfl
    have hSD : (Builtin.unsafeSliceData_ #[51] 115 #[.slice (some ⟨k, 0, none⟩) l.length cap]).run Tryd.prog w.drew = .ok (.pointer (some ⟨k, 0, none⟩)) w.drew := Lib.run_unsafeSliceData_row _ _ _ _ _ _ hcap
    have hUS : (Builtin.unsafeString_ #[115, 3] 9 #[.pointer (some ⟨k, 0, none⟩), .int .i64 l.length]).run Tryd.prog w.drew = .ok (.string ⟨l.toArray⟩) (w.drew.freeze ⟨k, 0, none⟩ l.length) := by
      refine Lib.run_unsafeString_row w.drew 115 3 9 5 Tryd.underlying115 (by kernel_rfl) k cur.size (by have hg' : w.drew.heap[k]? = some (.cells cur 5 (0, 0)) := hk; simp [World.shape?, hg']) l h0 (by omega) (by omega) ?_
      intro j x hx
      have := hown.cells (g := k) rfl j (.int .u8 x.toNat) (by simp [Lib.byteCells, hx])
      exact this
    have hfin : ∀ w', w' = w.drew.freeze ⟨k, 0, none⟩ l.length → Strd g l.length w w' := fun w' e => .inr ⟨k, hg ▸ rfl, e⟩
    have HF := Lib.hid hfin
    clear hown hn hg hp hb hcap hcm hcs htake hfin hk hcur
    generalize hN : (l.length : Int) = N at *
    go_enter Tryd.func57, Tryd.ntmps57
    go_wp2
    go_region_o
    all_goals (go_wp2; go_ret; exact ⟨rfl, HF.out _ rfl⟩)
end Go.Proofs.YtgdkdihedgiegaaDoor

namespace Go.Proofs.YtgdkdihedgiegaaDoor
open Go.RowKit

theorem bld_new (w : World) (b B : Nat) (hb : b = w.heap.size) (hB : b < B) : Bld (99, []) B b none [] (w.alloc (Obj.cells #[.pointer none, .slice none 0 0] 99)) := by
  subst hb
  exact ⟨hB, rfl, ⟨.pointer none, .slice none 0 0, Array.getElem?_push_size, .inl rfl, World.ownsRow_nil _ _ _ _, rfl, fun _ => rfl⟩⟩
theorem Fr.cell {b : Nat} {g : Option Nat} {w w' : World} (h : Fr b g w w') {q : Nat} (hq : q < w.heap.size) (hb : q ≠ b) (hg : some q ≠ g) (o : Nat) : w'.cell? ⟨q, o, none⟩ = w.cell? ⟨q, o, none⟩ :=
  World.cell?_of_block (a := ⟨q, o, none⟩) (h.block q hq hb hg)
theorem Bld.row {K : TypeId × List Value} {B b : Nat} {g : Option Nat} {l : Bs} {w : World} (h : Bld K B b g l w) : ∀ k, g = some k → B ≤ k ∧ k < w.heap.size := by
  obtain ⟨_, _, p, v, _, _, hown, hg, _⟩ := h
  subst hg
  exact own_base hown
theorem Bld.old {K : TypeId × List Value} {B b : Nat} {g : Option Nat} {l : Bs} {w : World} (h : Bld K B b g l w) : b < w.heap.size := by
  obtain ⟨_, _, p, v, hb, _⟩ := h
  exact (Array.getElem?_eq_some_iff.mp hb).1
/-- A builder is kept where neither its block nor its row turns. -/
theorem Bld.keep {K : TypeId × List Value} {B b : Nat} {g : Option Nat} {l : Bs} {w w' : World} (h : Bld K B b g l w) (hb : w'.heap[b]? = w.heap[b]?) (hg : ∀ k, g = some k → w'.heap[k]? = w.heap[k]?) : Bld K B b g l w' := by
  obtain ⟨hlt, hkd, p, v, hx, hp, hown, rfl, hn⟩ := h
  refine ⟨hlt, hkd, p, v, hb.trans hx, hp, ?_, rfl, hn⟩
  obtain ⟨h1, h2⟩ := hown
  refine ⟨h1, ?_⟩
  rcases h2 with h2 | ⟨k, cap, cur, rfl, hk, hh, r⟩
  · exact .inl h2
  · exact .inr ⟨k, cap, cur, rfl, hk, (hg k rfl).trans hh, r⟩
theorem Bld.alloc {K : TypeId × List Value} {B b : Nat} {g : Option Nat} {l : Bs} {w : World} (h : Bld K B b g l w) (o : Obj) : Bld K B b g l (w.alloc o) :=
  h.keep ((alloc_below w o).block b h.old) (fun k hk => (alloc_below w o).block k (h.row k hk).2)
theorem Bld.below {K : TypeId × List Value} {B b : Nat} {g : Option Nat} {l : Bs} {w w' : World} (h : Bld K B b g l w) (k : Below w.heap.size w w') : Bld K B b g l w' :=
  h.keep (k.block b h.old) (fun j hj => k.block j (h.row j hj).2)

theorem ne_step {g g2 : Option Nat} {q n : Nat} (h : some q ≠ g) (hg2 : g2 = g ∨ ∃ k, g2 = some k ∧ n ≤ k) (hq : q < n) : some q ≠ g2 := by
  rcases hg2 with rfl | ⟨k, rfl, hk⟩
  · exact h
  · intro e; injection e; omega
theorem Bld.fr {K : TypeId × List Value} {B b lo : Nat} {g : Option Nat} {l : Bs} {w w' : World} (h : Bld K B b g l w) (f : Fr b g w w') (hl : lo ≤ b) : Below lo w w' :=
  f.below hl (fun k hk => by have := (h.row k hk).1; have := h.lt; omega) (by have := h.old; omega)
end Go.Proofs.YtgdkdihedgiegaaDoor
