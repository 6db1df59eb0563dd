/-
  The memory of a strings.Builder that the call itself made, beside another one: its own block, its own row of bytes; the writers' contracts.
  The walk of the program's bytes of a field.
-/
import Derived.Test.YtfkleeigdplapaaDoorP1
import Derived.Test.YtfkleeigdplapaaDoorFld
import Derived.Lib.AppendStr
import Derived.Lib.UnsafeStr
import Derived.Test.YtfkleeigdplapaaDoorW1
namespace Go.Proofs.YtfkleeigdplapaaDoor
open Go.RowKit

/-- Nothing but block b and row g has turned. -/
structure Fr (b : Nat) (g : Option Nat) (w w' : World) : Prop where
  os : w'.os = w.os
  tape : w'.tape = w.tape
  output : w'.output = w.output
  size : w.heap.size ≤ w'.heap.size
  block : ∀ k, k < w.heap.size → k ≠ b → some k ≠ g → w'.heap[k]? = w.heap[k]?
theorem Fr.refl (b : Nat) (g : Option Nat) (w : World) : Fr b g w w := ⟨rfl, rfl, rfl, Nat.le_refl _, fun _ _ _ _ => rfl⟩
theorem Fr.below {b B : Nat} {g : Option Nat} {w w' : World} (h : Fr b g w w') (hb : B ≤ b) (hg : ∀ k, g = some k → B ≤ k) (hB : B ≤ w.heap.size) : Below B w w' :=
  ⟨h.os, h.tape, h.output, h.size, fun k hk => h.block k (by omega) (by omega) (fun e => by have := hg k e.symm; omega)⟩
/-- A builder that holds l: its block b, its row g. -/
structure Bld (B b : Nat) (g : Option Nat) (l : Bs) (w : World) : Prop where
  lt : b < B
  ex : ∃ p v, w.heap[b]? = some (.cells #[p, v] 76 (0, 0)) ∧ (p = .pointer none ∨ p = .pointer (some ⟨b, 0, none⟩)) ∧ w.ownsRow B 5 1 v l.length (Lib.byteCells l) ∧ v.ownBlock = g ∧ (l = [] → v = .slice none 0 0)
theorem i5 : (Tryd.prog.info? 5).map (fun i => (i.zero, i.size, i.bytes)) = some (some (.int .u8 0), 1, 1) := by kernel_rfl
/-- Appending a string's bytes, and where the new slice lies. -/
theorem run_str_at (w : World) (base : Nat) (i : TypeInfo) (hi : Tryd.prog.info? 5 = some i) (hz : i.zero = some (.int .u8 0)) (hsize : i.size = 1) (hby : i.bytes = 1)
    (v : Value) (n : Nat) (xs : List Value) (hown : w.ownsRow base 5 1 v n xs) (s : ByteArray) (h63 : n + s.size ≤ maxLen) (hbytes : n + s.size ≤ 140737488355328) (hbase : base ≤ w.heap.size) :
    ∃ v' w', (Builtin.append_ #[40, 9] 40 #[v, .string s]).run Tryd.prog w = .ok v' w' ∧ w'.ownsRow base 5 1 v' (n + s.size) (xs ++ Lib.strCells s) ∧ w.grownBy w' v.ownBlock ∧
      (v' = .slice none 0 0 ↔ v = .slice none 0 0 ∧ s.size = 0) ∧ (v'.ownBlock = v.ownBlock ∨ ∃ k, v'.ownBlock = some k ∧ w.heap.size ≤ k) := by
  obtain ⟨v', w', hr, h2, h3, h4⟩ := Lib.run_append_own_string (P := Tryd.prog) w base 40 9 40 5 i Tryd.underlying40 Tryd.underlying9 hi hz hsize hby v n xs hown s h63 hbytes hbase
  refine ⟨v', w', hr, h2, h3, h4, ?_⟩
  have hxl : xs.length = n := by simpa using hown.1
  have hsmall : n + s.size ≤ 9223372036854775807 := by unfold maxLen at h63; omega
  rcases hown.2 with ⟨rfl, rfl⟩ | ⟨g, cap, cur, rfl, hbg, hg, hnc, hcm, hcs, htake⟩
  · obtain ⟨v2, w2, hr2, g2, _, _⟩ := Lib.run_append_own_string (P := Tryd.prog) w w.heap.size 40 9 40 5 i Tryd.underlying40 Tryd.underlying9 hi hz hsize hby (.slice none 0 0) 0 xs ⟨hown.1, .inl ⟨rfl, rfl⟩⟩ s h63 hbytes (Nat.le_refl _)
    rw [hr] at hr2
    injection hr2 with hv hw
    subst hv hw
    rcases g2.2 with ⟨he, _⟩ | ⟨k, _, _, he, hk, _⟩
    · left; rw [he]
    · right; exact ⟨k, by rw [he]; rfl, hk⟩
  · have hcur : cur.size = cap := by simpa using hcs
    by_cases hroom : n + s.size ≤ cap
    · have hr2 := Lib.run_append_room_string (P := Tryd.prog) w 40 9 40 5 i Tryd.underlying40 Tryd.underlying9 hi hsize g n cap cur hg s hroom (hcur.symm ▸ hroom)
      rw [hr] at hr2
      injection hr2 with hv hw
      left; rw [hv]; rfl
    · have holds : ∀ j u, xs[j]? = some u → w.cell? ((⟨g, 0, none⟩ : Addr).add j) = some u := hown.cells (g := g) rfl
      have hr2 := Lib.run_append_grow_string (P := Tryd.prog) w 40 9 40 5 i (.int .u8 0) Tryd.underlying40 Tryd.underlying9 hi hz ⟨g, 0, none⟩ n cap xs (by rw [hsize]; simpa using hxl) holds s (by omega) (by omega) (by rw [hby]; exact growslice_fits (by omega) (by omega))
      rw [hr] at hr2
      injection hr2 with hv hw
      right; exact ⟨w.heap.size, by rw [hv]; rfl, Nat.le_refl _⟩
theorem wpList_str_at {w : World} {ops : Array Oper} {rest : List Oper} {o : Oper} {a : Act} {Q : Exit → Act → World → Prop} (hgd : o.guard = none) (sl x : Operand)
    (ho : o.op = .call { callee := .builtin .append, args := #[sl, x], argTypes := #[40, 9] }) (hty : o.type = 40)
    (base : Nat) (i : TypeInfo) (hi : Tryd.prog.info? 5 = some i) (hz : i.zero = some (.int .u8 0)) (hsize : i.size = 1) (hby : i.bytes = 1)
    (v : Value) (n : Nat) (xs : List Value) (hs : a.eval sl = v) (hown : w.ownsRow base 5 1 v n xs) (s : ByteArray) (hx : a.eval x = .string s)
    (h63 : n + s.size ≤ maxLen) (hbytes : n + s.size ≤ 140737488355328) (hbase : base ≤ w.heap.size)
    (h : ∀ v' w', w'.ownsRow base 5 1 v' (n + s.size) (xs ++ Lib.strCells s) → w.grownBy w' v.ownBlock → (v' = .slice none 0 0 ↔ v = .slice none 0 0 ∧ s.size = 0) → (v'.ownBlock = v.ownBlock ∨ ∃ k, v'.ownBlock = some k ∧ w.heap.size ≤ k) → wpList Tryd.prog ops Q rest (a.put o.dst v') w') : wpList Tryd.prog ops Q (o :: rest) a w := by
  refine wpList_plain hgd fun K hK => ?_
  obtain ⟨v', w', hr, h2, h3, h4, h5⟩ := run_str_at w base i hi hz hsize hby v n xs hown s h63 hbytes hbase
  unfold Oper.wp execOp
  simp only [ho, hty, resolve, invoke, builtin, Sem.run_bind, Sem.run_pure, Result.andThen_ok, List.map_toArray, List.map_cons, List.map_nil, hs, hx, hr]
  exact hK _ _ (h v' w' h2 h3 h4 h5)
theorem strCells_bs (l : Bs) : Lib.strCells ⟨l.toArray⟩ = Lib.byteCells l := by simp [Lib.strCells, Lib.byteCells]
theorem byteCells_app (a b : Bs) : Lib.byteCells (a ++ b) = Lib.byteCells a ++ Lib.byteCells b := by simp [Lib.byteCells]
/-- copyCheck: behind it the builder holds its own address. -/
theorem check_64 (B b : Nat) (g : Option Nat) (l : Bs) (w : World) (h : Bld B b g l w) : Calls Tryd.prog 64 #[.pointer (some ⟨b, 0, none⟩)] w fun e w' => e = .returned (.tuple #[]) ∧ (∃ v, w'.heap[b]? = some (.cells #[.pointer (some ⟨b, 0, none⟩), v] 76 (0, 0)) ∧ w'.ownsRow B 5 1 v l.length (Lib.byteCells l) ∧ v.ownBlock = g ∧ (l = [] → v = .slice none 0 0)) ∧ w'.heap.size = w.heap.size ∧ Fr b none w w' := by
  obtain ⟨hlt, p, v, hb, hp, hown, hg, hn⟩ := h
  have c0 : w.cell? ⟨b, 0, none⟩ = some p := by rw [Lib.cell_of_heap hb]; rfl
  rcases hp with rfl | rfl
  · refine (copyCheck_fresh b w c0 (by simp [World.shape?, hb]) (Lib.frozen_of_heap hb 0)).mono ?_
    rintro e w' ⟨rfl, rfl⟩
    refine ⟨rfl, ⟨v, ?_, ownsRow_setCell_below hown hlt _, hg, hn⟩, by simp, ⟨rfl, rfl, rfl, by simp, fun k _ hk _ => Below.heap_setCell _ _ _ _ hk⟩⟩
    simp only [World.setCell, Array.getElem?_modify, if_true, hb]
    rfl
  · refine (copyCheck_used b w c0).mono ?_
    rintro e w' ⟨rfl, rfl⟩
    exact ⟨rfl, ⟨v, hb, hown, hg, hn⟩, rfl, Fr.refl _ _ _⟩
/-- Behind the append and the store. -/
theorem bld_store {B b : Nat} {w1 w2 : World} {p v v' : Value} {l' : Bs} (hlt : b < B) (hp : p = .pointer (some ⟨b, 0, none⟩)) (hb : w1.heap[b]? = some (.cells #[p, v] 76 (0, 0))) (hown : ∀ k, v.ownBlock = some k → B ≤ k)
    (h2 : w2.ownsRow B 5 1 v' l'.length (Lib.byteCells l')) (hgr : w1.grownBy w2 v.ownBlock) (hn : l' = [] → v' = .slice none 0 0) :
    Bld B b v'.ownBlock l' (w2.setCell ⟨b, 1, none⟩ v') ∧ Fr b v.ownBlock w1 (w2.setCell ⟨b, 1, none⟩ v') := by
  obtain ⟨hos, htp, hout, hsz, hbl⟩ := hgr
  have hbs : b < w1.heap.size := (Array.getElem?_eq_some_iff.mp hb).1
  have hne : some b ≠ v.ownBlock := fun e => by have := hown b e.symm; omega
  have hb2 : w2.heap[b]? = some (.cells #[p, v] 76 (0, 0)) := by rw [hbl b hbs hne, hb]
  refine ⟨⟨hlt, ⟨p, v', ?_, .inr hp, ownsRow_setCell_below h2 hlt _, rfl, hn⟩⟩, ⟨hos, htp, hout, by simpa using hsz, fun k hk hkb hkg => ?_⟩⟩
  · simp only [World.setCell, Array.getElem?_modify, if_true, hb2]
    rfl
  · rw [Below.heap_setCell _ _ _ _ hkb]
    exact hbl k hk hkg
theorem own_base {w : World} {B : Nat} {e : TypeId} {k : Nat} {v : Value} {n : Nat} {xs : List Value} (h : w.ownsRow B e k v n xs) : ∀ j, v.ownBlock = some j → B ≤ j ∧ j < w.heap.size := by
  intro j hj
  rcases h.2 with ⟨rfl, _⟩ | ⟨g, cap, cur, rfl, hg, hh, _⟩
  · cases hj
  · injection hj with hj; subst hj; exact ⟨hg, (Array.getElem?_eq_some_iff.mp hh).1⟩
theorem Fr.trans {b : Nat} {g g' : Option Nat} {x y z : World} (h : Fr b g x y) (k : Fr b g' y z) (hg : ∀ j, g' = some j → g = some j ∨ x.heap.size ≤ j) : Fr b g x z :=
  ⟨k.os.trans h.os, k.tape.trans h.tape, k.output.trans h.output, Nat.le_trans h.size k.size, fun j hj hb hn =>
    (k.block j (Nat.lt_of_lt_of_le hj h.size) hb (fun e => by rcases hg j e.symm with e1 | e1; exact hn e1.symm; omega)).trans (h.block j hj hb hn)⟩
theorem Fr.weak {b : Nat} {g : Option Nat} {x y : World} (h : Fr b none x y) : Fr b g x y := ⟨h.os, h.tape, h.output, h.size, fun j hj hb _ => h.block j hj hb (by simp)⟩
theorem gr_alloc {B : Nat} {e : TypeId} {k : Nat} {w w2 : World} {v : Value} {n : Nat} {xs : List Value} {o : Obj} (_ : w.ownsRow B e k v n xs) (hg : (w.alloc o).grownBy w2 v.ownBlock) : w.grownBy w2 v.ownBlock :=
  ⟨hg.os, hg.tape, hg.output, Nat.le_trans (by simp) hg.size, fun j hj hn => by rw [hg.block j (by simp; omega) hn]; exact ((Below.refl w.heap.size w).alloc (Nat.le_refl _) o).block j hj⟩
theorem bld_kept {B b : Nat} {w1 w2 : World} {p v : Value} {n : Nat} {xs : List Value} (hlt : b < B) (hb : w1.heap[b]? = some (.cells #[p, v] 76 (0, 0))) (hown : w1.ownsRow B 5 1 v n xs) (hgr : w1.grownBy w2 v.ownBlock) :
    w2.heap[b]? = some (.cells #[p, v] 76 (0, 0)) := by
  rw [hgr.block b (Array.getElem?_eq_some_iff.mp hb).1 (fun e => by have := (own_base hown b e.symm).1; omega), hb]
set_option maxHeartbeats 4000000 in
set_option maxRecDepth 100000 in
theorem write_40 (B b : Nat) (g : Option Nat) (l s : Bs) (w : World) (h : Bld B b g l w) (hB : B ≤ w.heap.size) (hs : l.length + s.length ≤ 100000000000000) :
    Calls Tryd.prog 40 #[.pointer (some ⟨b, 0, none⟩), S s] w fun e w' => e = .returned (.tuple #[.int .i64 s.length, .nilIface]) ∧ ∃ g', Bld B b g' (l ++ s) w' ∧ (g' = g ∨ ∃ k, g' = some k ∧ w.heap.size ≤ k) ∧ Fr b g w w' := by
  have H64 := Lib.hid (check_64 B b g l w h)
  have i5' : ∃ i, Tryd.prog.info? 5 = some i ∧ i.zero = some (.int .u8 0) ∧ i.size = 1 ∧ i.bytes = 1 := by
    have := i5
    revert this
    cases Tryd.prog.info? 5 <;> simp
  obtain ⟨i0, hi0, hi1, hi2, hi3⟩ := i5'
  have HI0 := Lib.hid hi0
  have HI1 := Lib.hid hi1
  have HI2 := Lib.hid hi2
  have HI3 := Lib.hid hi3
  have HLT := h.lt
  clear h hi0 hi1 hi2 hi3
  have HL := Lib.hid hs
  go_enter Tryd.func40, Tryd.ntmps40
  go_wp2_with (first
    | (go_at_call 64; ((with_reducible refine Calls.mono (H64.out) ?_); rintro e w1 ⟨rfl, ⟨v, hb1, hown, hg, hn⟩, hz, hfr⟩; have c1 : w1.cell? ⟨b, 1, none⟩ = some v := (by rw [Lib.cell_of_heap hb1]; rfl); have HB1 := Lib.hid hb1; have HOWN := Lib.hid hown; have HG := Lib.hid hg; have HN := Lib.hid hn; have HZ := Lib.hid hz; have HFR := Lib.hid hfr; clear hb1 hown hg hn hz hfr))
    | (at_builtin; refine wpList_str_at rfl _ _ rfl rfl B i0 HI0.out HI1.out HI2.out HI3.out v l.length _ rfl HOWN.out ⟨s.toArray⟩ rfl (by have := HL.out; unfold maxLen; simp [ByteArray.size]; omega) (by have := HL.out; simp [ByteArray.size]; omega) (by have := HZ.out; omega) ?_; intro v' w2 hown2 hgw hnil hat; obtain ⟨va, vc, rfl⟩ := owns_shape hown2; have hb2 := bld_kept HLT HB1.out HOWN.out hgw; have c2 : w2.cell? ⟨b, 1, none⟩ = some v := (by rw [Lib.cell_of_heap hb2]; rfl); have f2 : w2.frozen? ⟨b, 1, none⟩ = false := Lib.frozen_of_heap hb2 1; clear hb2; have HO2 := Lib.hid hown2; have HG2 := Lib.hid hgw; have HNI := Lib.hid hnil; have HAT := Lib.hid hat; clear hown2 hgw hnil hat))
  go_ret2
  have hlen : l.length + ByteArray.size ⟨s.toArray⟩ = (l ++ s).length := by simp [ByteArray.size]
  have ho2 := HO2.out
  rw [strCells_bs, ← byteCells_app, hlen] at ho2
  have hn2 : l ++ s = [] → Value.slice va (l.length + ByteArray.size ⟨s.toArray⟩) vc = .slice none 0 0 := fun e => by
    have h1 : l = [] := by cases l; rfl; simp at e
    have h2 : s = [] := by subst h1; simpa using e
    exact HNI.out.mpr ⟨HN.out h1, by subst h2; rfl⟩
  rw [hlen] at hn2
  obtain ⟨x1, x2⟩ := bld_store HLT rfl HB1.out (fun k hk => (own_base HOWN.out k hk).1) ho2 HG2.out hn2
  simp only [List.length_append] at x1 x2
  refine ⟨?_, _, x1, ?_, HFR.out.weak.trans (HG.out ▸ x2) (fun j hj => .inl hj)⟩
  · simp
  · have hat := HAT.out
    rw [HG.out, HZ.out] at hat
    simpa [ByteArray.size] using hat

set_option maxHeartbeats 4000000 in
set_option maxRecDepth 100000 in
theorem byte_63 (B b : Nat) (g : Option Nat) (l : Bs) (c : UInt8) (w : World) (h : Bld B b g l w) (hB : B ≤ w.heap.size) (hs : l.length ≤ 100000000000000) :
    Calls Tryd.prog 63 #[.pointer (some ⟨b, 0, none⟩), .int .u8 c.toNat] w fun e w' => e = .returned .nilIface ∧ ∃ g', Bld B b g' (l ++ [c]) w' ∧ (g' = g ∨ ∃ k, g' = some k ∧ w.heap.size ≤ k) ∧ Fr b g w w' := by
  have H64 := Lib.hid (check_64 B b g l w h)
  have i5' : ∃ i, Tryd.prog.info? 5 = some i ∧ i.zero = some (.int .u8 0) ∧ i.size = 1 ∧ i.bytes = 1 := by
    have := i5
    revert this
    cases Tryd.prog.info? 5 <;> simp
  obtain ⟨i0, hi0, hi1, hi2, hi3⟩ := i5'
  have HI0 := Lib.hid hi0
  have HI1 := Lib.hid hi1
  have HI2 := Lib.hid hi2
  have HI3 := Lib.hid hi3
  have HLT := h.lt
  clear h hi0 hi1 hi2 hi3
  have HL := Lib.hid hs
  go_enter Tryd.func63, Tryd.ntmps63
  go_wp2_with (first
    | (go_at_call 64; ((with_reducible refine Calls.mono (H64.out) ?_); rintro e w1 ⟨rfl, ⟨v, hb1, hown, hg, hn⟩, hz, hfr⟩; have c1 : w1.cell? ⟨b, 1, none⟩ = some v := (by rw [Lib.cell_of_heap hb1]; rfl); have HB1 := Lib.hid hb1; have HOWN := Lib.hid hown; have HG := Lib.hid hg; have HN := Lib.hid hn; have HZ := Lib.hid hz; have HFR := Lib.hid hfr; clear hb1 hown hg hn hz hfr))
    | (at_builtin; refine wpList_append_own_at _ rfl _ _ 40 rfl B 5 i0 (.int .u8 0) 1 1 Tryd.underlying40 HI0.out HI1.out HI2.out HI3.out rfl (by omega) v l.length _ rfl (HOWN.out.alloc _) ⟨w1.heap.size, 0, none⟩ 1 1 [.int .u8 c.toNat] rfl rfl (cell_one_new _ _ _) (by simp [Value.oneCell']) (by have := HL.out; unfold maxLen; omega) (by have := HL.out; omega) (by have := HZ.out; simp; omega) ?_; intro v' w2 hown2 hgw0 hnil hat; obtain ⟨va, vc, rfl⟩ := owns_shape hown2; have hgw := gr_alloc HOWN.out hgw0; have hb2 := bld_kept HLT HB1.out HOWN.out hgw; have c2 : w2.cell? ⟨b, 1, none⟩ = some v := (by rw [Lib.cell_of_heap hb2]; rfl); have f2 : w2.frozen? ⟨b, 1, none⟩ = false := Lib.frozen_of_heap hb2 1; clear hb2; have HO2 := Lib.hid hown2; have HG2 := Lib.hid hgw; have HAT := Lib.hid hat; clear hown2 hgw hgw0 hnil hat))
  go_ret
  have ho2 := HO2.out
  rw [show Lib.byteCells l ++ [Value.int .u8 c.toNat] = Lib.byteCells (l ++ [c]) from by rw [byteCells_app]; rfl, show l.length + 1 = (l ++ [c]).length from by simp] at ho2
  obtain ⟨x1, x2⟩ := bld_store HLT rfl HB1.out (fun k hk => (own_base HOWN.out k hk).1) ho2 HG2.out (fun e => by simp at e)
  simp only [List.length_append, List.length_singleton] at x1 x2
  refine ⟨rfl, _, x1, ?_, HFR.out.weak.trans (HG.out ▸ x2) (fun j hj => .inl hj)⟩
  have hat := HAT.out
  rw [HG.out] at hat
  rcases hat with hat | hat
  · exact .inl hat
  · refine .inr ⟨_, hat, ?_⟩
    have := HZ.out
    simp
    omega
set_option maxHeartbeats 1000000 in
theorem len_42 (B b : Nat) (g : Option Nat) (l : Bs) (w : World) (h : Bld B b g l w) :
    Calls Tryd.prog 42 #[.pointer (some ⟨b, 0, none⟩)] w fun e w' => e = .returned (.int .i64 l.length) ∧ w' = w := by
  obtain ⟨hlt, p, v, hb, hp, hown, hg, hn⟩ := h
  obtain ⟨a, cap, rfl⟩ := owns_shape hown
  have c1 : w.cell? ⟨b, 1, none⟩ = some (.slice a l.length cap) := by rw [Lib.cell_of_heap hb]; rfl
  clear hown hn hg hp hb
  go_enter Tryd.func42, Tryd.ntmps42
  go_wp2_with fail
  go_ret
  exact ⟨rfl, rfl⟩

/-- String: what is read is what was written; the row lies frozen behind it. -/
def Strd (g : Option Nat) (n : Nat) (w w' : World) : Prop := w' = w.drew ∨ ∃ k, g = some k ∧ w' = w.drew.freeze ⟨k, 0, none⟩ n
theorem freeze_fr (b k n : Nat) (w : World) : Fr b (some k) w (w.freeze ⟨k, 0, none⟩ n) := by
  unfold World.freeze
  split
  · exact ⟨rfl, rfl, rfl, Nat.le_refl _, fun _ _ _ _ => rfl⟩
  · refine ⟨rfl, rfl, rfl, by simp, fun j _ _ hg => ?_⟩
    have : k ≠ j := fun e => hg (by rw [e])
    simp [Array.getElem?_modify, this]
theorem Strd.fr {g : Option Nat} {n : Nat} {w w' : World} (b : Nat) (h : Strd g n w w') : Fr b g w w' := by
  rcases h with rfl | ⟨k, rfl, rfl⟩
  · exact ⟨rfl, rfl, rfl, Nat.le_refl _, fun _ _ _ _ => rfl⟩
  · have h := freeze_fr b k n w.drew
    exact ⟨h.os, h.tape, h.output, h.size, h.block⟩
set_option maxHeartbeats 4000000 in
set_option maxRecDepth 100000 in
theorem string_43 (B b : Nat) (g : Option Nat) (l : Bs) (w : World) (h : Bld B b g l w) (hs : l.length ≤ 100000000000000) :
    Calls Tryd.prog 43 #[.pointer (some ⟨b, 0, none⟩)] w fun e w' => e = .returned (S l) ∧ Strd g l.length w w' := by
  obtain ⟨hlt, p, v, hb, hp, hown, hg, hn⟩ := h
  have mixed : Tryd.prog.follows Departure.mixedOrders = true := by kernel_rfl
  rcases hown.2 with ⟨rfl, hl0⟩ | ⟨k, cap, cur, rfl, hbk, hk, hnc, hcm, hcs, htake⟩
  · obtain rfl : l = [] := List.eq_nil_of_length_eq_zero hl0
    have c1 : w.drew.cell? ⟨b, 1, none⟩ = some (.slice none 0 0) := by
      have : w.drew.heap[b]? = some (.cells #[p, .slice none 0 0] 76 (0, 0)) := hb
      rw [Lib.cell_of_heap this]; rfl
    have hSD : (Builtin.unsafeSliceData_ #[40] 101 #[.slice none 0 0]).run Tryd.prog w.drew = .ok (.pointer none) w.drew := rfl
    have hUS : (Builtin.unsafeString_ #[101, 3] 9 #[.pointer none, .int .i64 0]).run Tryd.prog w.drew = .ok (.string .empty) w.drew := Lib.run_unsafeString_none w.drew _ _ _ _
    clear hown hn hg hp hb
    go_enter Tryd.func43, Tryd.ntmps43
    go_wp2
    go_region_o
    all_goals (go_wp2; go_ret; exact ⟨rfl, .inl rfl⟩)
  · have h0 : l ≠ [] := fun e => by cases hn e
    have hcap : cap ≠ 0 := by
      have : l.length ≠ 0 := by simpa using h0
      omega
    have hcur : cur.size = cap := by simpa using hcs
    have c1 : w.drew.cell? ⟨b, 1, none⟩ = some (.slice (some ⟨k, 0, none⟩) l.length cap) := by
      have : w.drew.heap[b]? = some (.cells #[p, .slice (some ⟨k, 0, none⟩) l.length cap] 76 (0, 0)) := hb
      rw [Lib.cell_of_heap this]; rfl
    have hSD : (Builtin.unsafeSliceData_ #[40] 101 #[.slice (some ⟨k, 0, none⟩) l.length cap]).run Tryd.prog w.drew = .ok (.pointer (some ⟨k, 0, none⟩)) w.drew := Lib.run_unsafeSliceData_row _ _ _ _ _ _ hcap
    have hUS : (Builtin.unsafeString_ #[101, 3] 9 #[.pointer (some ⟨k, 0, none⟩), .int .i64 l.length]).run Tryd.prog w.drew = .ok (.string ⟨l.toArray⟩) (w.drew.freeze ⟨k, 0, none⟩ l.length) := by
      refine Lib.run_unsafeString_row w.drew 101 3 9 5 Tryd.underlying101 (by kernel_rfl) k cur.size (by have hg' : w.drew.heap[k]? = some (.cells cur 5 (0, 0)) := hk; simp [World.shape?, hg']) l h0 (by omega) (by omega) ?_
      intro j x hx
      have := hown.cells (g := k) rfl j (.int .u8 x.toNat) (by simp [Lib.byteCells, hx])
      exact this
    have hfin : ∀ w', w' = w.drew.freeze ⟨k, 0, none⟩ l.length → Strd g l.length w w' := fun w' e => .inr ⟨k, hg ▸ rfl, e⟩
    have HF := Lib.hid hfin
    clear hown hn hg hp hb hcap hcm hcs htake hfin hk hcur
    generalize hN : (l.length : Int) = N at *
    go_enter Tryd.func43, Tryd.ntmps43
    go_wp2
    go_region_o
    all_goals (go_wp2; go_ret; exact ⟨rfl, HF.out _ rfl⟩)
end Go.Proofs.YtfkleeigdplapaaDoor

namespace Go.Proofs.YtfkleeigdplapaaDoor
open Go.RowKit
attribute [local go_sem ↓] Go.wp_at_zero Go.wp_at_succ

theorem bld_new (w : World) (b B : Nat) (hb : b = w.heap.size) (hB : b < B) : Bld B b none [] (w.alloc (Obj.cells #[.pointer none, .slice none 0 0] 76)) := by
  subst hb
  exact ⟨hB, ⟨.pointer none, .slice none 0 0, Array.getElem?_push_size, .inl rfl, World.ownsRow_nil _ _ _ _, rfl, fun _ => rfl⟩⟩
theorem Fr.cell {b : Nat} {g : Option Nat} {w w' : World} (h : Fr b g w w') {q : Nat} (hq : q < w.heap.size) (hb : q ≠ b) (hg : some q ≠ g) (o : Nat) : w'.cell? ⟨q, o, none⟩ = w.cell? ⟨q, o, none⟩ :=
  World.cell?_of_block (a := ⟨q, o, none⟩) (h.block q hq hb hg)
theorem Bld.row {B b : Nat} {g : Option Nat} {l : Bs} {w : World} (h : Bld B b g l w) : ∀ k, g = some k → B ≤ k ∧ k < w.heap.size := by
  obtain ⟨_, p, v, _, _, hown, hg, _⟩ := h
  subst hg
  exact own_base hown
theorem Bld.old {B b : Nat} {g : Option Nat} {l : Bs} {w : World} (h : Bld B b g l w) : b < w.heap.size := by
  obtain ⟨_, p, v, hb, _⟩ := h
  exact (Array.getElem?_eq_some_iff.mp hb).1
/-- A builder is kept where neither its block nor its row turns. -/
theorem Bld.keep {B b : Nat} {g : Option Nat} {l : Bs} {w w' : World} (h : Bld B b g l w) (hb : w'.heap[b]? = w.heap[b]?) (hg : ∀ k, g = some k → w'.heap[k]? = w.heap[k]?) : Bld B b g l w' := by
  obtain ⟨hlt, p, v, hx, hp, hown, rfl, hn⟩ := h
  refine ⟨hlt, p, v, hb.trans hx, hp, ?_, rfl, hn⟩
  obtain ⟨h1, h2⟩ := hown
  refine ⟨h1, ?_⟩
  rcases h2 with h2 | ⟨k, cap, cur, rfl, hk, hh, r⟩
  · exact .inl h2
  · exact .inr ⟨k, cap, cur, rfl, hk, (hg k rfl).trans hh, r⟩
theorem Bld.alloc {B b : Nat} {g : Option Nat} {l : Bs} {w : World} (h : Bld B b g l w) (o : Obj) : Bld B b g l (w.alloc o) :=
  h.keep ((alloc_below1 w o).block b h.old) (fun k hk => (alloc_below1 w o).block k (h.row k hk).2)
theorem Bld.below {B b : Nat} {g : Option Nat} {l : Bs} {w w' : World} (h : Bld B b g l w) (k : Below w.heap.size w w') : Bld B b g l w' :=
  h.keep (k.block b h.old) (fun j hj => k.block j (h.row j hj).2)

theorem byte_at (B b : Nat) (g : Option Nat) (l : Bs) (c : UInt8) (n : Int) (hn : n = c.toNat) (w : World) (h : Bld B b g l w) (hB : B ≤ w.heap.size) (hs : l.length ≤ 100000000000000) :
    Calls Tryd.prog 63 #[.pointer (some ⟨b, 0, none⟩), .int .u8 n] w fun e w' => e = .returned .nilIface ∧ ∃ g', Bld B b g' (l ++ [c]) w' ∧ (g' = g ∨ ∃ k, g' = some k ∧ w.heap.size ≤ k) ∧ Fr b g w w' := by
  subst hn
  exact byte_63 B b g l c w h hB hs
theorem ne_step {g g2 : Option Nat} {q n : Nat} (h : some q ≠ g) (hg2 : g2 = g ∨ ∃ k, g2 = some k ∧ n ≤ k) (hq : q < n) : some q ≠ g2 := by
  rcases hg2 with rfl | ⟨k, rfl, hk⟩
  · exact h
  · intro e; injection e; omega
theorem Bld.fr {B b lo : Nat} {g : Option Nat} {l : Bs} {w w' : World} (h : Bld B b g l w) (f : Fr b g w w') (hl : lo ≤ b) : Below lo w w' :=
  f.below hl (fun k hk => by have := (h.row k hk).1; have := h.lt; omega) (by have := h.old; omega)
set_option maxHeartbeats 4000000 in
set_option maxRecDepth 100000 in
theorem bytes_39 (f : FieldD) (d : Value) (w : World) (hs : SubsAt 0 w.heap.size w d f.subs) (hl : (fieldBytes f).length ≤ 1000000) (hn : f.subs.length ≤ 1000000) :
   Calls Tryd.prog 39 #[fieldV f d] w fun e w' => e = .returned (S (fieldBytes f)) ∧ Below w.heap.size w w' := by
  obtain ⟨tag, ind, data, subs⟩ := f
  have hl1 : data.length + ind.length ≤ 1000000 := by simp [fieldBytes] at hl; omega
  have HL := Lib.hid hl
  have HS := Lib.hid hs
  obtain ⟨a, cap, rfl, _⟩ := hs
  clear hl
  unfold fieldV
  have HB0 := Lib.hid (fun o => bld_new (w.alloc o) (w.heap.size + 1) (w.heap.size + 2) (by simp) (by omega))
  go_enter Tryd.func39, Tryd.ntmps39
  go_wp2_with (go_at_call 40; ((with_reducible refine Calls.mono (write_40 (w.heap.size + 2) (w.heap.size + 1) none [] (data ++ ind) _ (HB0.out _) (by simp) (by simp; omega)) ?_); rintro e w1 ⟨rfl, g1, hbl, hg1, hfr⟩; have c3 := hfr.cell (q := w.heap.size) (by simp; omega) (by omega) (by simp) 3))
  have HBL := Lib.hid hbl
  have HFR : Hid (Below (w.heap.size + 1) (w.alloc (Obj.cells #[S tag, S ind, S data, Value.slice a subs.length cap] 57)) w1) := btr ((alloc_below1 _ _).mono (by simp)) (hfr.below (B := w.heap.size + 1) (by omega) (by simp) (by simp)) (by simp)
  clear hbl hg1 hfr HB0
  go_wp2_with fail
  go_loopw [15] (fun i wr => ∃ (k : Nat) (acc : Bs) (g : Option Nat), k ≤ subs.length ∧ i = .int .i64 k ∧ Hid (acc = data ++ ind ++ (subs.take k).flatMap subBytes) ∧ acc.length < 1000000 ∧
      Hid (Bld (w.heap.size + 2) (w.heap.size + 1) g acc wr) ∧ Below (w.heap.size + 1) (w.alloc (Obj.cells #[S tag, S ind, S data, Value.slice a subs.length cap] 57)) wr) (fun i _ => subs.length - (intOf i).toNat)
  case atStart => exact ⟨0, data ++ ind, g1, Nat.zero_le _, rfl, (by simp [Hid]), (by have := fieldBytes_take ⟨tag, ind, data, subs⟩ 0; have := HL.out; simp at *; omega), HBL, HFR.out⟩
  case round =>
    obtain ⟨k, acc, g, hk, rfl, HA, hal, HB, hb⟩ := hrel
    by_cases hlt : k < subs.length
    · have hsr : SubsAt 0 w.heap.size wr (Value.slice a subs.length cap) subs := (HS.out.kept (bkept ((Below.refl _ w).alloc (Nat.le_refl _) _) (Nat.le_refl _))).kept (bkept hb (by omega))
      obtain ⟨b, off, cap', hv, hb1, _, ht, hx⟩ := hsr.sub k hlt
      cases hv
      have HN : Hid (acc ++ (31 :: subs[k].code :: subs[k].text) = data ++ ind ++ (subs.take (k + 1)).flatMap subBytes) := by rw [flat_snoc _ _ _ hlt, HA.out]; simp [Hid, subBytes]
      have hle : acc.length + 2 + subs[k].text.length < 1000000 := by
        have := fieldBytes_take ⟨tag, ind, data, subs⟩ (k + 1)
        simp only at this
        rw [← HN.out] at this
        have := HL.out
        simp at *
        omega
      generalize subs[k].text = T at *
      generalize subs[k].code = C at *
      have HOLD := Lib.hid HB.out.old
      have HROW := Lib.hid HB.out.row
      clear hsr
      have HZ : Hid (w.heap.size + 2 ≤ wr.heap.size) := by have := HB.out.old; show _ ≤ _; omega
      have HNE : Hid (some wr.heap.size ≠ g) := fun e => by have := (HROW.out _ e.symm).2; omega
      go_wp2_with (first
        | (go_at_call_of 63 (Value.int IntKind.u8 31); ((with_reducible refine Calls.mono (byte_at (w.heap.size + 2) (w.heap.size + 1) g acc 31 _ (by decide) _ (HB.out.alloc _) (by have := HZ.out; simp; omega) (by omega)) ?_); rintro e w2 ⟨rfl, g2, hb2, hg2, hf2⟩; have hne2 : some wr.heap.size ≠ g2 := ne_step HNE.out hg2 (by simp); have c20 : w2.cell? ⟨wr.heap.size, 0, none⟩ = some (.int .u8 C.toNat) := (by rw [hf2.cell (by simp) (by have := HZ.out; omega) HNE.out]; go_simp); have c21 : w2.cell? ⟨wr.heap.size, 1, none⟩ = some (S T) := (by rw [hf2.cell (by simp) (by have := HZ.out; omega) HNE.out]; go_simp); have HZ2 : Hid (wr.heap.size < w2.heap.size) := (by have := hf2.size; simp at this; exact this); have HB2 := Lib.hid hb2; have HG2 := Lib.hid hg2; have HF2 := Lib.hid hf2; have HNE2 := Lib.hid hne2; clear hb2 hg2 hf2 hne2))
        | (go_at_call_of 63 (Value.int IntKind.u8 C.toNat); ((with_reducible refine Calls.mono (byte_at (w.heap.size + 2) (w.heap.size + 1) g2 (acc ++ [31]) C _ (by rfl) _ HB2.out (by have := HZ.out; have := HZ2.out; omega) (by simp; omega)) ?_); rintro e w3 ⟨rfl, g3, hb3, hg3, hf3⟩; have c31 : w3.cell? ⟨wr.heap.size, 1, none⟩ = some (S T) := (by rw [hf3.cell HZ2.out (by have := HZ.out; omega) HNE2.out]; exact c21); have HZ3 : Hid (wr.heap.size < w3.heap.size) := Nat.lt_of_lt_of_le HZ2.out hf3.size; have HB3 := Lib.hid hb3; have HF3 := Lib.hid hf3; clear hb3 hg3 hf3))
        | (go_at_call 40; ((with_reducible refine Calls.mono (write_40 (w.heap.size + 2) (w.heap.size + 1) g3 (acc ++ [31] ++ [C]) T _ HB3.out (by have := HZ.out; have := HZ3.out; omega) (by simp; omega)) ?_); rintro e w4 ⟨rfl, g4, hb4, hg4, hf4⟩; have HB4 := Lib.hid hb4; have HF4 := Lib.hid hf4; clear hb4 hg4 hf4)))
      go_roundw
      case rel =>
        refine ⟨k + 1, acc ++ [31] ++ [C] ++ T, g4, by omega, by go_num, ?_, by simp; omega, HB4, ?_⟩
        · rw [← HN.out]; simp [Hid]
        · have h2 := (HB.out.alloc _).fr HF2.out (lo := w.heap.size + 1) (Nat.le_refl _)
          have h3 := HB2.out.fr HF3.out (lo := w.heap.size + 1) (Nat.le_refl _)
          have h4 := HB3.out.fr HF4.out (lo := w.heap.size + 1) (Nat.le_refl _)
          exact (((hb.alloc (by have := HZ.out; omega) _).trans h2).trans h3).trans h4
      case measure => simp [intOf]; omega
    · have hacc : Hid (fieldBytes ⟨tag, ind, data, subs⟩ = acc ++ [30]) := by
        rw [HA.out, List.take_of_length_le (by omega)]; simp [fieldBytes, Hid]
      have HZ : Hid (w.heap.size + 2 ≤ wr.heap.size) := by have := HB.out.old; show _ ≤ _; omega
      go_wp2_with (first
        | (go_at_call 63; ((with_reducible refine Calls.mono (byte_at (w.heap.size + 2) (w.heap.size + 1) g acc 30 _ (by decide) _ HB.out (by exact HZ.out) (by omega)) ?_); rintro e w2 ⟨rfl, g2, hb2, hg2, hf2⟩; have HB2 := Lib.hid hb2; have HF2 := Lib.hid hf2; clear hb2 hg2 hf2))
        | (go_at_call 43; ((with_reducible refine Calls.mono (string_43 (w.heap.size + 2) (w.heap.size + 1) g2 (acc ++ [30]) _ HB2.out (by simp; omega)) ?_); rintro e w3 ⟨rfl, hf3⟩; have HF3 := Lib.hid (hf3.fr (w.heap.size + 1)); clear hf3)))
      go_ret
      refine ⟨ret_S hacc.out.symm, ?_⟩
      have h2 := HB.out.fr HF2.out (lo := w.heap.size + 1) (Nat.le_refl _)
      have h3 := HB2.out.fr HF3.out (lo := w.heap.size + 1) (Nat.le_refl _)
      exact btr (alloc_below1 w _) ((hb.trans h2).trans h3) (by omega)
end Go.Proofs.YtfkleeigdplapaaDoor
