/-
  The walk of the reference's field: the field that some bytes describe, or the offset of the first wrong byte.
-/
import Derived.Test.YtfkleeigdplapaaDoorW1
import Derived.Test.YtfkleeigdplapaaDoorFld
namespace Go.Proofs.YtfkleeigdplapaaDoor
open Go.RowKit

def FieldPost (tag l : Bs) (w : World) (e : Ending) (w' : World) : Prop :=
  Below w.heap.size w w' ∧ match fieldR tag l with
    | .ok f => ∃ d, e = .returned (.tuple #[fieldV f d, .int .i64 (-1)]) ∧ SubsAt w.heap.size w'.heap.size w' d f.subs
    | .error i => ∃ f a n cap, e = .returned (.tuple #[fieldV f (.slice a n cap), .int .i64 i])
def prevOf (l : Bs) (k : Nat) : UInt8 := if k = 0 then 0 else l.getD (k - 1) 0
theorem fieldPost_err {tag l : Bs} {w w' : World} {e : Ending} {i : Int} (h : fieldR tag l = .error i) (hb : Below w.heap.size w w') (f : FieldD) {n cap : Nat} (a : Option Addr) (he : e = .returned (.tuple #[fieldV f (.slice a n cap), .int .i64 i])) : FieldPost tag l w e w' := by
  unfold FieldPost; rw [h]; exact ⟨hb, f, a, n, cap, he⟩
theorem fieldPost_ok {tag l : Bs} {w w' : World} {e : Ending} {f : FieldD} (h : fieldR tag l = .ok f) (hb : Below w.heap.size w w') (d : Value) (he : e = .returned (.tuple #[fieldV f d, .int .i64 (-1)])) (hd : SubsAt w.heap.size w'.heap.size w' d f.subs) : FieldPost tag l w e w' := by
  unfold FieldPost; rw [h]; exact ⟨hb, d, he, hd⟩
theorem fieldGo_at (text : Bool) (l : Bs) (k : Nat) (h : k < l.length) (st : FS) : fieldGo text (l.drop k) k (prevOf l k) st = match fieldStep text k (prevOf l k) l[k] st with
    | some st' => fieldGo text (l.drop (k + 1)) (k + 1) (prevOf l (k + 1)) st'
    | none => .error k := by
  rw [List.drop_eq_getElem_cons h]
  simp only [fieldGo]
  have : prevOf l (k + 1) = l[k] := by simp [prevOf, h]
  rw [this]
  cases fieldStep text k (prevOf l k) l[k] st <;> rfl
theorem slice_one (l : Bs) (k : Nat) (h : k < l.length) : List.drop k (List.take (k + 1) l) = [l[k]] := by
  rw [List.take_succ_eq_append_getElem h, List.drop_append_of_le_length (by simp; omega)]
  simp

theorem next_none {x : Ch} {c : UInt8} {b : Nat} {w : World} (hx : chFine x) (h : ChAt w b x) (hn : chNext x c = none) :
   Calls Tryd.prog 86 #[.pointer (some ⟨b, 0, none⟩), .int .u8 c.toNat] w fun e w' => e = .returned (.bool false) ∧ Only b w w' := by
  refine (next_86 x c b w hx h).mono ?_
  rintro e w' ⟨ho, ⟨_, he⟩ | ⟨z, hz, _⟩⟩
  · exact ⟨he, ho⟩
  · have := hz.out; rw [hn] at this; cases this
theorem next_some {x y : Ch} {c : UInt8} {b : Nat} {w : World} (hx : chFine x) (h : ChAt w b x) (hn : chNext x c = some y) :
   Calls Tryd.prog 86 #[.pointer (some ⟨b, 0, none⟩), .int .u8 c.toNat] w fun e w' => e = .returned (.bool true) ∧ Only b w w' ∧ ChAt w' b y := by
  refine (next_86 x c b w hx h).mono ?_
  rintro e w' ⟨ho, ⟨h0, _⟩ | ⟨z, hz, he, hc⟩⟩
  · have := h0.out; rw [hn] at this; cases this
  · have := hz.out; rw [hn] at this; cases this; exact ⟨he, ho, hc⟩
theorem i59 : (Tryd.prog.info? 59).map (fun i => (i.zero, i.size, i.bytes)) = some (some (.agg #[.int .u8 0, .string ⟨#[]⟩]), 2, 24) := by kernel_rfl
theorem nil_or_snoc {α : Type} (l : List α) : l = [] ∨ ∃ ss s, l = ss ++ [s] := by
  rcases List.eq_nil_or_concat l with h | ⟨a, b, h⟩
  · exact .inl h
  · exact .inr ⟨a, b, by rw [h, List.concat_eq_append]⟩

set_option linter.unusedSimpArgs false in
set_option maxHeartbeats 8000000 in
set_option maxRecDepth 100000 in
theorem field_73 (tag l : Bs) (w : World) (ht : 2 ≤ tag.length) (h0 : 0 < l.length) (hl : l.length ≤ 1000000) :
   Calls Tryd.prog 73 #[S tag, S l] w (FieldPost tag l w) := by
  obtain ⟨T, hT⟩ : ∃ T, ctrlB tag = T := ⟨_, rfl⟩
  have H35 : Hid (∀ W, Calls Tryd.prog 35 #[S tag] W fun e w' => e = .returned (.bool T) ∧ W = w') := by intro W; rw [← hT]; exact control_35 _ _ ht
  have HF : Hid (fieldR tag l = fieldGo T (l.drop 0) 0 (prevOf l 0) ⟨⟨tag, [], [], []⟩, ch0, false⟩) := by unfold fieldR; rw [hT]; rfl
  clear hT
  go_enter Tryd.func73, Tryd.ntmps73
  go_wp2_with (go_at_call 35; ((with_reducible refine Calls.mono (H35.out _) ?_); rintro e w' ⟨rfl, rfl⟩))
  go_loopw [9, 10, 11, 12, 13] (fun ed i c fn kk wr => ∃ (k : Nat) (st : FS) (v : Value), k ≤ l.length ∧ i = .int .i64 k ∧ ed = .bool st.ended ∧ Hid (fieldR tag l = fieldGo T (l.drop k) k (prevOf l k) st) ∧ st.f.tag = tag ∧ Hid (st.f.subs.length ≤ k ∧ st.f.ind.length ≤ k ∧ st.f.data.length ≤ k ∧ chFine st.x ∧ (∀ s ∈ st.f.subs, s.text.length ≤ k)) ∧ FldAt w.heap.size w wr st v) (fun _ i _ _ _ _ => l.length - (intOf i).toNat)
  case atStart =>
    refine ⟨0, ⟨⟨tag, [], [], []⟩, ch0, false⟩, .slice none 0 0, Nat.zero_le _, rfl, rfl, HF, rfl, by simp [Hid, chFine_0], ?_⟩
    exact FldAt.init w tag
  case round =>
    obtain ⟨k, st, v, hk, rfl, rfl, HG, htag, HB, hf⟩ := hrel
    by_cases hlt : k < l.length
    · have HS := Lib.hid (fieldGo_at T l k hlt st)
      have hsl := slice_one l k hlt
      have HFD := Lib.hid hf
      obtain ⟨⟨g, ind, data, subs⟩, x, ended⟩ := st
      simp only at htag
      subst htag
      obtain ⟨va, vc, rfl⟩ := owns_shape hf.own
      obtain ⟨hbel, hbig, ⟨r0, r1, r2, r3, q0, q1, q2, q3⟩, ⟨c0, c1, c2, c3, f1, f2, f3⟩, ⟨x0, x1, x2, y0, y1, y2⟩, _⟩ := hf
      simp only at c0 c1 c2 c3 x0 x1 x2
      have hc8 := u8_lt l[k]
      generalize hc : l[k] = c at *


      obtain ⟨hb1, hb2, hb3, hb4, hb5⟩ := HB.out
      simp only at hb1 hb2 hb3 hb4
      have HB5 := Lib.hid hb5
      have HB4 := Lib.hid hb4
      clear hb5 hb4
      have hch : ChAt wr (w.heap.size + 1 + 1) x := HFD.out.ch
      have HCH := Lib.hid hch
      clear hch
      cases ended
      · cases T
        · by_cases hi2 : k < 2
          · have hi2i : (k : Int) < 2 := by omega
            cases hic : indicB c
            · have HE : Hid (fieldR g l = .error k) := by rw [HG.out, HS.out, show fieldStep false k (prevOf l k) c ⟨⟨g, ind, data, subs⟩, x, false⟩ = none from by simp [fieldStep, hi2, hic]]; rfl
              have hor : c.toNat < 32 ∨ 127 ≤ c.toNat := by simp [indicB] at hic; omega
              go_wp2_with fail
              all_goals
                refine bodyPost_ret (v := .tuple #[.agg #[S g, S ind, S data, .slice va (subs).length vc], .int .i64 k]) (by rw [results_cell_tmp rfl]; go_simp) rfl ?_
                exact fieldPost_err HE.out ((((hbel.setCell (Nat.le_refl _) _).setCell (Nat.le_refl _) _).setCell (Nat.le_refl _) _).setCell (Nat.le_refl _) _) ⟨g, ind, data, subs⟩ _ rfl
            · have HN : Hid (fieldR g l = fieldGo false (l.drop (k + 1)) (k + 1) (prevOf l (k + 1)) ⟨⟨g, ind ++ [c], data, subs⟩, x, false⟩) := by rw [HG.out, HS.out, show fieldStep false k (prevOf l k) c ⟨⟨g, ind, data, subs⟩, x, false⟩ = some ⟨⟨g, ind ++ [c], data, subs⟩, x, false⟩ from by simp [fieldStep, hi2, hic]]; rfl
              have hor : 32 ≤ c.toNat ∧ c.toNat < 127 := by simpa [indicB] using hic
              obtain ⟨ho1, ho2⟩ := hor
              have qq : ¬ 9223372036854775807 < List.length ind + 1 := by omega
              go_wp2_with fail
              go_region
              go_wp2_with fail
              go_roundw
              case rel => exact ⟨k + 1, ⟨⟨g, ind ++ [c], data, subs⟩, x, false⟩, _, by omega, by go_num, rfl, HN, rfl, ⟨by simp only; omega, by simp; omega, by simp only; omega, HB4.out, fun s hs => Nat.le_succ_of_le (HB5.out s hs)⟩, HFD.out.drew.setInd (ind ++ [c])⟩
              case measure => simp [intOf]; omega
          · have hi2i : ¬ (k : Int) < 2 := by omega
            rcases nil_or_snoc subs with rfl | ⟨ss, s, rfl⟩
            · by_cases h31 : x.left = 0 ∧ c.toNat = 31
              · have e1 : ((x.left : Int) == 0) = true := by simp [h31.1]
                have e2 : ((c.toNat : Int) == 31) = true := by simp [h31.2]
                have HN : Hid (fieldR g l = fieldGo false (l.drop (k + 1)) (k + 1) (prevOf l (k + 1)) ⟨⟨g, ind, data, [] ++ [⟨0, []⟩]⟩, x, false⟩) := by rw [HG.out, HS.out, show fieldStep false k (prevOf l k) c ⟨⟨g, ind, data, []⟩, x, false⟩ = some ⟨⟨g, ind, data, [] ++ [⟨0, []⟩]⟩, x, false⟩ from by simp [fieldStep, hi2, h31.1, show c = 31 from UInt8.toNat_inj.1 h31.2]]; rfl
                clear h31
                have hownR : wr.ownsRow (w.heap.size + 3) 59 2 (.slice va (0) vc) (0) (([]).flatMap subCells) := by simpa using HFD.out.own
                have HOWN := Lib.hid hownR
                clear hownR
                have hgrow3 : ∀ o w2, (wr.alloc o).grownBy w2 (Value.slice va (0) vc).ownBlock → w2.cell? ⟨w.heap.size + 1, 3, none⟩ = some (.slice va (0) vc) ∧ w2.frozen? ⟨w.heap.size + 1, 3, none⟩ = false := by
                  intro o w2 hg
                  have hbk : w2.heap[w.heap.size + 1]? = wr.heap[w.heap.size + 1]? := by
                    rw [hg.block _ (by simp; omega) (by intro e; have := (HOWN.out.lt _ e.symm).1; omega), Below.heap_alloc _ _ _ (by omega)]
                  have h3 := (HFD.out.loc.of hbk).c3
                  have h4 := (HFD.out.loc.of hbk).f3
                  exact ⟨by simpa using h3, h4⟩
                have HGR := Lib.hid hgrow3
                clear hgrow3
                obtain ⟨i0, hi, hz0, hz1, hz2⟩ := info_parts i59
                have HI := Lib.hid hi
                have HI0 := Lib.hid hz0
                have HI1 := Lib.hid hz1
                have HI2 := Lib.hid hz2
                clear hi hz0 hz1 hz2
                go_wp2_with (at_builtin; refine wpList_append_own_at _ rfl _ _ 55 rfl (w.heap.size + 3) 59 i0 (.agg #[.int .u8 0, .string ⟨#[]⟩]) 2 24 Tryd.underlying55 HI.out HI0.out HI1.out HI2.out rfl (by omega) (.slice va (0) vc) (0) _ rfl (HOWN.out.alloc _) ⟨wr.heap.size, 0, none⟩ 1 1 [.int .u8 0, S []] rfl rfl (cell_two_new _ _ _ _) (by simp [Value.oneCell']) (by unfold maxLen; omega) (by omega) (by simp; omega) ?_; intro v' w2 hown2 hgw _ _; obtain ⟨va', vc', rfl⟩ := owns_shape hown2; have HO2 := Lib.hid hown2; have HG2 := Lib.hid hgw; obtain ⟨e3, ef3⟩ := HGR.out _ _ hgw; clear hown2 hgw)
                go_roundw
                case rel => exact ⟨k + 1, ⟨⟨g, ind, data, [] ++ [⟨0, []⟩]⟩, x, false⟩, _, by omega, by go_num, rfl, HN, rfl, ⟨by simp only [List.length_append, List.length_singleton] at *; omega, by simp only; omega, by simp only; omega, HB4.out, fun s hs => by rcases List.mem_append.1 hs with hs | hs; (exact Nat.le_succ_of_le (HB5.out s hs)); (simp at hs; subst hs; simp)⟩, HFD.out.app (w1 := wr.alloc (Obj.cells #[.int .u8 0, S []] 59)) (alloc_below1 wr _) (by simpa using HOWN.out.alloc (Obj.cells #[.int .u8 0, S []] 59)) ⟨0, []⟩ (by simpa [subCells] using HO2.out) (by simpa using HG2.out)⟩
                case measure => simp [intOf]; omega
              · have hne : ¬ (x.left = 0 ∧ c = 31) := fun h => h31 ⟨h.1, by rw [h.2]; rfl⟩
                have HE : Hid (fieldR g l = .error k) := by rw [HG.out, HS.out, show fieldStep false k (prevOf l k) c ⟨⟨g, ind, data, []⟩, x, false⟩ = none from by simp [fieldStep, hi2]; intro h1 h2; exact hne ⟨h1, h2⟩]; rfl
                clear hne
                by_cases hl0 : x.left = 0
                · have e1 : ((x.left : Int) == 0) = true := by simp [hl0]
                  have e2 : ((c.toNat : Int) == 31) = false := by simp; omega
                  clear h31 hl0
                  go_wp2_with fail
                  all_goals
                    refine bodyPost_ret (v := .tuple #[.agg #[S g, S ind, S data, .slice va 0 vc], .int .i64 k]) (by rw [results_cell_tmp rfl]; go_simp) rfl ?_
                    exact fieldPost_err HE.out ((((hbel.setCell (Nat.le_refl _) _).setCell (Nat.le_refl _) _).setCell (Nat.le_refl _) _).setCell (Nat.le_refl _) _) ⟨g, ind, data, []⟩ _ rfl
                · have e1 : ((x.left : Int) == 0) = false := by simp; omega
                  clear h31 hl0
                  go_wp2_with fail
                  all_goals
                    refine bodyPost_ret (v := .tuple #[.agg #[S g, S ind, S data, .slice va 0 vc], .int .i64 k]) (by rw [results_cell_tmp rfl]; go_simp) rfl ?_
                    exact fieldPost_err HE.out ((((hbel.setCell (Nat.le_refl _) _).setCell (Nat.le_refl _) _).setCell (Nat.le_refl _) _).setCell (Nat.le_refl _) _) ⟨g, ind, data, []⟩ _ rfl
            · obtain ⟨gb, cap, hv, hgb, hgb2, l0, l1, m0, m1⟩ := HFD.out.last ss s rfl
              have HV := Lib.hid hv
              simp only [List.length_append, List.length_singleton] at hv
              injection hv with hv1 hv2 hv3
              subst hv1 hv3
              clear hv2
              have hkp : k - 1 < l.length := by omega
              have hprev : prevOf l k = l[k - 1] := by unfold prevOf; rw [if_neg (by omega)]; simp [hkp]
              have hk1 : 1 ≤ (k : Int) := by omega
              simp only [List.length_append, List.length_singleton] at hb1
              by_cases hp31 : (l[k - 1].toNat : Int) = 31
              · have hpp : prevOf l k = 31 := by rw [hprev]; apply UInt8.toNat_inj.1; simpa using (by omega : l[k - 1].toNat = 31)
                have e0 : ((l[k - 1].toNat : Int) == 31) = true := by simpa using hp31
                clear hprev hp31
                cases hsg : signB c
                · have HE : Hid (fieldR g l = .error k) := by rw [HG.out, HS.out, show fieldStep false k (prevOf l k) c ⟨⟨g, ind, data, (ss ++ [s])⟩, x, false⟩ = none from by simp [fieldStep, hi2, hpp, hsg]]; rfl
                  go_wp2_with (go_at_call 76; refine (sign_76 _ _).mono ?_; rintro e w' ⟨rfl, rfl⟩)
                  all_goals
                    refine bodyPost_ret (v := .tuple #[.agg #[S g, S ind, S data, .slice (some ⟨gb, 0, none⟩) (ss.length + 1) vc], .int .i64 k]) (by rw [results_cell_tmp rfl]; go_simp) rfl ?_
                    exact fieldPost_err HE.out ((((hbel.setCell (Nat.le_refl _) _).setCell (Nat.le_refl _) _).setCell (Nat.le_refl _) _).setCell (Nat.le_refl _) _) ⟨g, ind, data, (ss ++ [s])⟩ _ rfl
                · have HN : Hid (fieldR g l = fieldGo false (l.drop (k + 1)) (k + 1) (prevOf l (k + 1)) ⟨⟨g, ind, data, ss ++ [⟨c, s.text⟩]⟩, x, false⟩) := by rw [HG.out, HS.out, show fieldStep false k (prevOf l k) c ⟨⟨g, ind, data, (ss ++ [s])⟩, x, false⟩ = some ⟨⟨g, ind, data, ss ++ [⟨c, s.text⟩]⟩, x, false⟩ from by simp [fieldStep, hi2, hpp, hsg, setCode]]; rfl
                  clear hpp
                  go_wp2_with (go_at_call 76; refine (sign_76 _ _).mono ?_; rintro e w' ⟨rfl, rfl⟩)
                  go_roundw
                  case rel => exact ⟨k + 1, ⟨⟨g, ind, data, ss ++ [⟨c, s.text⟩]⟩, x, false⟩, _, by omega, by go_num, rfl, HN, rfl, ⟨by simp only [List.length_append, List.length_singleton] at *; omega, by simp only; omega, by simp only; omega, HB4.out, fun t ht => by rcases List.mem_append.1 ht with h | h; (exact Nat.le_succ_of_le (HB5.out t (List.mem_append.2 (.inl h)))); (simp at h; subst h; exact Nat.le_succ_of_le (HB5.out s (by simp)))⟩, HFD.out.row (ss ++ [⟨c, s.text⟩]) gb _ (ss.length * 2) (.int .u8 c.toNat) (by simp; rfl) (by simp) (flat_set_code ss s c)⟩
                  case measure => simp [intOf]; omega
              · have hpp : prevOf l k ≠ 31 := by rw [hprev]; intro h; apply hp31; rw [h]; rfl
                have e0 : ((l[k - 1].toNat : Int) == 31) = false := by simpa using hp31
                clear hprev hp31
                by_cases hl0 : x.left = 0
                · have e1 : ((x.left : Int) == 0) = true := by simp [hl0]
                  by_cases h31 : c.toNat = 31
                  · have hc31 : c = 31 := UInt8.toNat_inj.1 h31
                    have e2 : ((c.toNat : Int) == 31) = true := by simp [h31]
                    have HN : Hid (fieldR g l = fieldGo false (l.drop (k + 1)) (k + 1) (prevOf l (k + 1)) ⟨⟨g, ind, data, (ss ++ [s]) ++ [⟨0, []⟩]⟩, x, false⟩) := by rw [HG.out, HS.out, show fieldStep false k (prevOf l k) c ⟨⟨g, ind, data, (ss ++ [s])⟩, x, false⟩ = some ⟨⟨g, ind, data, (ss ++ [s]) ++ [⟨0, []⟩]⟩, x, false⟩ from by simp [fieldStep, hi2, hpp, hl0, hc31]]; rfl
                    clear hl0 h31 hc31 hpp
                    have hownR : wr.ownsRow (w.heap.size + 3) 59 2 (.slice (some ⟨gb, 0, none⟩) (ss.length + 1) vc) (ss.length + 1) (((ss ++ [s])).flatMap subCells) := by simpa using HFD.out.own
                    have HOWN := Lib.hid hownR
                    clear hownR
                    have hgrow3 : ∀ o w2, (wr.alloc o).grownBy w2 (Value.slice (some ⟨gb, 0, none⟩) (ss.length + 1) vc).ownBlock → w2.cell? ⟨w.heap.size + 1, 3, none⟩ = some (.slice (some ⟨gb, 0, none⟩) (ss.length + 1) vc) ∧ w2.frozen? ⟨w.heap.size + 1, 3, none⟩ = false := by
                      intro o w2 hg
                      have hbk : w2.heap[w.heap.size + 1]? = wr.heap[w.heap.size + 1]? := by
                        rw [hg.block _ (by simp; omega) (by intro e; have := (HOWN.out.lt _ e.symm).1; omega), Below.heap_alloc _ _ _ (by omega)]
                      have h3 := (HFD.out.loc.of hbk).c3
                      have h4 := (HFD.out.loc.of hbk).f3
                      exact ⟨by simpa using h3, h4⟩
                    have HGR := Lib.hid hgrow3
                    clear hgrow3
                    obtain ⟨i0, hi, hz0, hz1, hz2⟩ := info_parts i59
                    have HI := Lib.hid hi
                    have HI0 := Lib.hid hz0
                    have HI1 := Lib.hid hz1
                    have HI2 := Lib.hid hz2
                    clear hi hz0 hz1 hz2
                    go_wp2_with (at_builtin; refine wpList_append_own_at _ rfl _ _ 55 rfl (w.heap.size + 3) 59 i0 (.agg #[.int .u8 0, .string ⟨#[]⟩]) 2 24 Tryd.underlying55 HI.out HI0.out HI1.out HI2.out rfl (by omega) (.slice (some ⟨gb, 0, none⟩) (ss.length + 1) vc) (ss.length + 1) _ rfl (HOWN.out.alloc _) ⟨wr.heap.size, 0, none⟩ 1 1 [.int .u8 0, S []] rfl rfl (cell_two_new _ _ _ _) (by simp [Value.oneCell']) (by unfold maxLen; omega) (by omega) (by simp; omega) ?_; intro v' w2 hown2 hgw _ _; obtain ⟨va', vc', rfl⟩ := owns_shape hown2; have HO2 := Lib.hid hown2; have HG2 := Lib.hid hgw; obtain ⟨e3, ef3⟩ := HGR.out _ _ hgw; clear hown2 hgw)
                    go_roundw
                    case rel => exact ⟨k + 1, ⟨⟨g, ind, data, (ss ++ [s]) ++ [⟨0, []⟩]⟩, x, false⟩, _, by omega, by go_num, rfl, HN, rfl, ⟨by simp only [List.length_append, List.length_singleton] at *; omega, by simp only; omega, by simp only; omega, HB4.out, fun s hs => by rcases List.mem_append.1 hs with hs | hs; (exact Nat.le_succ_of_le (HB5.out s hs)); (simp at hs; subst hs; simp)⟩, HFD.out.app (w1 := wr.alloc (Obj.cells #[.int .u8 0, S []] 59)) (alloc_below1 wr _) (by simpa using HOWN.out.alloc (Obj.cells #[.int .u8 0, S []] 59)) ⟨0, []⟩ (by simpa [subCells] using HO2.out) (by simpa using HG2.out)⟩
                    case measure => simp [intOf]; omega
                  · have hc31 : c ≠ 31 := fun h => h31 (by rw [h]; rfl)
                    have e2 : ((c.toNat : Int) == 31) = false := by simp; omega
                    by_cases h30 : c.toNat = 30
                    · have hc30 : c = 30 := UInt8.toNat_inj.1 h30
                      have e3 : ((c.toNat : Int) == 30) = true := by simp [h30]
                      have HN : Hid (fieldR g l = fieldGo false (l.drop (k + 1)) (k + 1) (prevOf l (k + 1)) ⟨⟨g, ind, data, ss ++ [s]⟩, x, true⟩) := by rw [HG.out, HS.out, show fieldStep false k (prevOf l k) c ⟨⟨g, ind, data, (ss ++ [s])⟩, x, false⟩ = some ⟨⟨g, ind, data, ss ++ [s]⟩, x, true⟩ from by simp [fieldStep, hi2, hpp, hl0, hc30]]; rfl
                      clear hl0 h31 hc31 h30 hc30 hpp
                      go_wp2_with fail
                      go_roundw
                      case rel => exact ⟨k + 1, ⟨⟨g, ind, data, ss ++ [s]⟩, x, true⟩, _, by omega, by go_num, rfl, HN, rfl, ⟨by simp only [List.length_append, List.length_singleton]; omega, by simp only; omega, by simp only; omega, HB4.out, fun s hs => Nat.le_succ_of_le (HB5.out s hs)⟩, ⟨HFD.out.below, HFD.out.big, HFD.out.res, HFD.out.loc, HFD.out.ch, HFD.out.own⟩⟩
                      case measure => simp [intOf]; omega
                    · have hc30 : c ≠ 30 := fun h => h30 (by rw [h]; rfl)
                      have e3 : ((c.toNat : Int) == 30) = false := by simp; omega
                      cases hnx : chNext x c with
                      | none =>
                        have HE : Hid (fieldR g l = .error k) := by rw [HG.out, HS.out, show fieldStep false k (prevOf l k) c ⟨⟨g, ind, data, (ss ++ [s])⟩, x, false⟩ = none from by simp [fieldStep, hi2, hpp, hl0, hc31, hc30, hnx]]; rfl
                        have HNX : Hid (∀ W, ChAt W (w.heap.size + 1 + 1) x → Calls Tryd.prog 86 #[.pointer (some ⟨w.heap.size + 1 + 1, 0, none⟩), .int .u8 c.toNat] W fun e w' => e = .returned (.bool false) ∧ Only (w.heap.size + 1 + 1) W w') := fun W h => next_none HB4.out h hnx
                        clear hl0 hpp h31 hc31 h30 hc30 hnx
                        go_wp2_with (go_at_call 86; ((with_reducible refine Calls.mono (HNX.out _ HCH.out) ?_); rintro e w2 ⟨rfl, ho⟩; obtain ⟨r0, r1, r2, r3, q0, q1, q2, q3⟩ := HFD.out.res.of (ho.block _ (by omega)); obtain ⟨c0, c1, c2, c3, f1, f2, f3⟩ := HFD.out.loc.of (ho.block _ (by omega)); simp only at c0 c1 c2 c3; have hbel2 : Below w.heap.size w w2 := hbel.trans (ho.below (by omega))))
                        all_goals
                          refine bodyPost_ret (v := .tuple #[.agg #[S g, S ind, S data, .slice (some ⟨gb, 0, none⟩) (ss.length + 1) vc], .int .i64 k]) (by rw [results_cell_tmp rfl]; go_simp) rfl ?_
                          exact fieldPost_err HE.out ((((hbel2.setCell (Nat.le_refl _) _).setCell (Nat.le_refl _) _).setCell (Nat.le_refl _) _).setCell (Nat.le_refl _) _) ⟨g, ind, data, (ss ++ [s])⟩ _ rfl
                      | some y =>
                        have HN : Hid (fieldR g l = fieldGo false (l.drop (k + 1)) (k + 1) (prevOf l (k + 1)) ⟨⟨g, ind, data, ss ++ [⟨s.code, s.text ++ [c]⟩]⟩, y, false⟩) := by rw [HG.out, HS.out, show fieldStep false k (prevOf l k) c ⟨⟨g, ind, data, (ss ++ [s])⟩, x, false⟩ = some ⟨⟨g, ind, data, ss ++ [⟨s.code, s.text ++ [c]⟩]⟩, y, false⟩ from by simp [fieldStep, hi2, hpp, hl0, hc31, hc30, hnx, addText]]; rfl
                        have HY := Lib.hid (chFine_next HB4.out hnx)
                        have HNX : Hid (∀ W, ChAt W (w.heap.size + 1 + 1) x → Calls Tryd.prog 86 #[.pointer (some ⟨w.heap.size + 1 + 1, 0, none⟩), .int .u8 c.toNat] W fun e w' => e = .returned (.bool true) ∧ Only (w.heap.size + 1 + 1) W w' ∧ ChAt w' (w.heap.size + 1 + 1) y) := fun W h => next_some HB4.out h hnx
                        clear hl0 hpp h31 hc31 h30 hc30 hnx
                        have hts : s.text.length ≤ k := HB5.out s (by simp)
                        have qq : ¬ 9223372036854775807 < List.length s.text + 1 := by omega
                        go_wp2_with (go_at_call 86; ((with_reducible refine Calls.mono (HNX.out _ HCH.out) ?_); rintro e w2 ⟨rfl, ho, hcz⟩; have HF2 := Lib.hid (HFD.out.next ho hcz); obtain ⟨c0, c1, c2, c3, f1, f2, f3⟩ := HF2.out.loc; simp only at c0 c1 c2 c3; obtain ⟨gb2, cap2, hv2, hgb3, hgb4, l0, l1, m0, m1⟩ := HF2.out.last ss s rfl; simp only [List.length_append, List.length_singleton] at hv2; injection hv2 with hv4 hv5 hv6; injection hv4 with hv4; injection hv4 with hv4; subst hv4 hv6; clear hv5))
                        go_region
                        go_wp2_with fail
                        go_roundw
                        case rel => exact ⟨k + 1, ⟨⟨g, ind, data, ss ++ [⟨s.code, s.text ++ [c]⟩]⟩, y, false⟩, _, by omega, by go_num, rfl, HN, rfl, ⟨by simp only [List.length_append, List.length_singleton] at *; omega, by simp only; omega, by simp only; omega, HY.out, fun t ht => by rcases List.mem_append.1 ht with h | h; (exact Nat.le_succ_of_le (HB5.out t (List.mem_append.2 (.inl h)))); (simp at h; subst h; simp; exact hts)⟩, (HF2.out.row (ss ++ [⟨s.code, s.text ++ [c]⟩]) gb _ (ss.length * 2 + 1) (S (s.text ++ [c])) (by simp; rfl) (by simp) (flat_set_text ss s (s.text ++ [c]))).drew⟩
                        case measure => simp [intOf]; omega
                · have e1 : ((x.left : Int) == 0) = false := by simp; omega
                  cases hnx : chNext x c with
                  | none =>
                    have HE : Hid (fieldR g l = .error k) := by rw [HG.out, HS.out, show fieldStep false k (prevOf l k) c ⟨⟨g, ind, data, (ss ++ [s])⟩, x, false⟩ = none from by simp [fieldStep, hi2, hpp, hl0, hnx]]; rfl
                    have HNX : Hid (∀ W, ChAt W (w.heap.size + 1 + 1) x → Calls Tryd.prog 86 #[.pointer (some ⟨w.heap.size + 1 + 1, 0, none⟩), .int .u8 c.toNat] W fun e w' => e = .returned (.bool false) ∧ Only (w.heap.size + 1 + 1) W w') := fun W h => next_none HB4.out h hnx
                    clear hl0 hpp hnx
                    go_wp2_with (go_at_call 86; ((with_reducible refine Calls.mono (HNX.out _ HCH.out) ?_); rintro e w2 ⟨rfl, ho⟩; obtain ⟨r0, r1, r2, r3, q0, q1, q2, q3⟩ := HFD.out.res.of (ho.block _ (by omega)); obtain ⟨c0, c1, c2, c3, f1, f2, f3⟩ := HFD.out.loc.of (ho.block _ (by omega)); simp only at c0 c1 c2 c3; have hbel2 : Below w.heap.size w w2 := hbel.trans (ho.below (by omega))))
                    all_goals
                      refine bodyPost_ret (v := .tuple #[.agg #[S g, S ind, S data, .slice (some ⟨gb, 0, none⟩) (ss.length + 1) vc], .int .i64 k]) (by rw [results_cell_tmp rfl]; go_simp) rfl ?_
                      exact fieldPost_err HE.out ((((hbel2.setCell (Nat.le_refl _) _).setCell (Nat.le_refl _) _).setCell (Nat.le_refl _) _).setCell (Nat.le_refl _) _) ⟨g, ind, data, (ss ++ [s])⟩ _ rfl
                  | some y =>
                    have HN : Hid (fieldR g l = fieldGo false (l.drop (k + 1)) (k + 1) (prevOf l (k + 1)) ⟨⟨g, ind, data, ss ++ [⟨s.code, s.text ++ [c]⟩]⟩, y, false⟩) := by rw [HG.out, HS.out, show fieldStep false k (prevOf l k) c ⟨⟨g, ind, data, (ss ++ [s])⟩, x, false⟩ = some ⟨⟨g, ind, data, ss ++ [⟨s.code, s.text ++ [c]⟩]⟩, y, false⟩ from by simp [fieldStep, hi2, hpp, hl0, hnx, addText]]; rfl
                    have HY := Lib.hid (chFine_next HB4.out hnx)
                    have HNX : Hid (∀ W, ChAt W (w.heap.size + 1 + 1) x → Calls Tryd.prog 86 #[.pointer (some ⟨w.heap.size + 1 + 1, 0, none⟩), .int .u8 c.toNat] W fun e w' => e = .returned (.bool true) ∧ Only (w.heap.size + 1 + 1) W w' ∧ ChAt w' (w.heap.size + 1 + 1) y) := fun W h => next_some HB4.out h hnx
                    clear hl0 hpp hnx
                    have hts : s.text.length ≤ k := HB5.out s (by simp)
                    have qq : ¬ 9223372036854775807 < List.length s.text + 1 := by omega
                    go_wp2_with (go_at_call 86; ((with_reducible refine Calls.mono (HNX.out _ HCH.out) ?_); rintro e w2 ⟨rfl, ho, hcz⟩; have HF2 := Lib.hid (HFD.out.next ho hcz); obtain ⟨c0, c1, c2, c3, f1, f2, f3⟩ := HF2.out.loc; simp only at c0 c1 c2 c3; obtain ⟨gb2, cap2, hv2, hgb3, hgb4, l0, l1, m0, m1⟩ := HF2.out.last ss s rfl; simp only [List.length_append, List.length_singleton] at hv2; injection hv2 with hv4 hv5 hv6; injection hv4 with hv4; injection hv4 with hv4; subst hv4 hv6; clear hv5))
                    go_region
                    go_wp2_with fail
                    go_roundw
                    case rel => exact ⟨k + 1, ⟨⟨g, ind, data, ss ++ [⟨s.code, s.text ++ [c]⟩]⟩, y, false⟩, _, by omega, by go_num, rfl, HN, rfl, ⟨by simp only [List.length_append, List.length_singleton] at *; omega, by simp only; omega, by simp only; omega, HY.out, fun t ht => by rcases List.mem_append.1 ht with h | h; (exact Nat.le_succ_of_le (HB5.out t (List.mem_append.2 (.inl h)))); (simp at h; subst h; simp; exact hts)⟩, (HF2.out.row (ss ++ [⟨s.code, s.text ++ [c]⟩]) gb _ (ss.length * 2 + 1) (S (s.text ++ [c])) (by simp; rfl) (by simp) (flat_set_text ss s (s.text ++ [c]))).drew⟩
                    case measure => simp [intOf]; omega
        · by_cases hl0 : x.left = 0
          · have e1 : ((x.left : Int) == 0) = true := by simp [hl0]
            by_cases h30 : c.toNat = 30
            · have hc30 : c = 30 := UInt8.toNat_inj.1 h30
              have e3 : ((c.toNat : Int) == 30) = true := by simp [h30]
              have e4 : ((c.toNat : Int) == 31) = false := by simp; omega
              have HN : Hid (fieldR g l = fieldGo true (l.drop (k + 1)) (k + 1) (prevOf l (k + 1)) ⟨⟨g, ind, data, subs⟩, x, true⟩) := by rw [HG.out, HS.out, show fieldStep true k (prevOf l k) c ⟨⟨g, ind, data, subs⟩, x, false⟩ = some ⟨⟨g, ind, data, subs⟩, x, true⟩ from by simp [fieldStep, hl0, hc30]]; rfl
              clear hl0 h30 hc30
              go_wp2_with fail
              go_roundw
              case rel => exact ⟨k + 1, ⟨⟨g, ind, data, subs⟩, x, true⟩, _, by omega, by go_num, rfl, HN, rfl, ⟨by simp only [List.length_append, List.length_singleton]; omega, by simp only; omega, by simp only; omega, HB4.out, fun s hs => Nat.le_succ_of_le (HB5.out s hs)⟩, ⟨HFD.out.below, HFD.out.big, HFD.out.res, HFD.out.loc, HFD.out.ch, HFD.out.own⟩⟩
              case measure => simp [intOf]; omega
            · have hc30 : c ≠ 30 := fun h => h30 (by rw [h]; rfl)
              have e3 : ((c.toNat : Int) == 30) = false := by simp; omega
              by_cases h31 : c.toNat = 31
              · have e4 : ((c.toNat : Int) == 31) = true := by simp [h31]
                clear h31
                cases hnx : chNext x c with
                | none =>
                  have HE : Hid (fieldR g l = .error k) := by rw [HG.out, HS.out, show fieldStep true k (prevOf l k) c ⟨⟨g, ind, data, subs⟩, x, false⟩ = none from by simp [fieldStep, hl0, hc30, hnx]]; rfl
                  have HNX : Hid (∀ W, ChAt W (w.heap.size + 1 + 1) x → Calls Tryd.prog 86 #[.pointer (some ⟨w.heap.size + 1 + 1, 0, none⟩), .int .u8 c.toNat] W fun e w' => e = .returned (.bool false) ∧ Only (w.heap.size + 1 + 1) W w') := fun W h => next_none HB4.out h hnx
                  clear hl0 h30 hc30 hnx
                  go_wp2_with (go_at_call 86; ((with_reducible refine Calls.mono (HNX.out _ HCH.out) ?_); rintro e w2 ⟨rfl, ho⟩; obtain ⟨r0, r1, r2, r3, q0, q1, q2, q3⟩ := HFD.out.res.of (ho.block _ (by omega)); obtain ⟨c0, c1, c2, c3, f1, f2, f3⟩ := HFD.out.loc.of (ho.block _ (by omega)); simp only at c0 c1 c2 c3; have hbel2 : Below w.heap.size w w2 := hbel.trans (ho.below (by omega))))
                  all_goals
                    refine bodyPost_ret (v := .tuple #[.agg #[S g, S ind, S data, .slice va (subs).length vc], .int .i64 k]) (by rw [results_cell_tmp rfl]; go_simp) rfl ?_
                    exact fieldPost_err HE.out ((((hbel2.setCell (Nat.le_refl _) _).setCell (Nat.le_refl _) _).setCell (Nat.le_refl _) _).setCell (Nat.le_refl _) _) ⟨g, ind, data, subs⟩ _ rfl
                | some y =>
                  have HN : Hid (fieldR g l = fieldGo true (l.drop (k + 1)) (k + 1) (prevOf l (k + 1)) ⟨⟨g, ind, data ++ [c], subs⟩, y, false⟩) := by rw [HG.out, HS.out, show fieldStep true k (prevOf l k) c ⟨⟨g, ind, data, subs⟩, x, false⟩ = some ⟨⟨g, ind, data ++ [c], subs⟩, y, false⟩ from by simp [fieldStep, hl0, hc30, hnx]]; rfl
                  have HY := Lib.hid (chFine_next HB4.out hnx)
                  have HNX : Hid (∀ W, ChAt W (w.heap.size + 1 + 1) x → Calls Tryd.prog 86 #[.pointer (some ⟨w.heap.size + 1 + 1, 0, none⟩), .int .u8 c.toNat] W fun e w' => e = .returned (.bool true) ∧ Only (w.heap.size + 1 + 1) W w' ∧ ChAt w' (w.heap.size + 1 + 1) y) := fun W h => next_some HB4.out h hnx
                  clear hl0 h30 hc30 hnx
                  have qq : ¬ 9223372036854775807 < List.length data + 1 := by omega
                  go_wp2_with (go_at_call 86; ((with_reducible refine Calls.mono (HNX.out _ HCH.out) ?_); rintro e w2 ⟨rfl, ho, hcz⟩; have HF2 := Lib.hid (HFD.out.next ho hcz); obtain ⟨c0, c1, c2, c3, f1, f2, f3⟩ := HF2.out.loc; simp only at c0 c1 c2 c3))
                  go_region
                  go_wp2_with fail
                  go_roundw
                  case rel => exact ⟨k + 1, ⟨⟨g, ind, data ++ [c], subs⟩, y, false⟩, _, by omega, by go_num, rfl, HN, rfl, ⟨by simp only; omega, by simp only; omega, by simp; omega, HY.out, fun t ht => Nat.le_succ_of_le (HB5.out t ht)⟩, (HF2.out.setData (data ++ [c])).drew⟩
                  case measure => simp [intOf]; omega
              · have e4 : ((c.toNat : Int) == 31) = false := by simp; omega
                clear h31
                cases hnx : chNext x c with
                | none =>
                  have HE : Hid (fieldR g l = .error k) := by rw [HG.out, HS.out, show fieldStep true k (prevOf l k) c ⟨⟨g, ind, data, subs⟩, x, false⟩ = none from by simp [fieldStep, hl0, hc30, hnx]]; rfl
                  have HNX : Hid (∀ W, ChAt W (w.heap.size + 1 + 1) x → Calls Tryd.prog 86 #[.pointer (some ⟨w.heap.size + 1 + 1, 0, none⟩), .int .u8 c.toNat] W fun e w' => e = .returned (.bool false) ∧ Only (w.heap.size + 1 + 1) W w') := fun W h => next_none HB4.out h hnx
                  clear hl0 h30 hc30 hnx
                  go_wp2_with (go_at_call 86; ((with_reducible refine Calls.mono (HNX.out _ HCH.out) ?_); rintro e w2 ⟨rfl, ho⟩; obtain ⟨r0, r1, r2, r3, q0, q1, q2, q3⟩ := HFD.out.res.of (ho.block _ (by omega)); obtain ⟨c0, c1, c2, c3, f1, f2, f3⟩ := HFD.out.loc.of (ho.block _ (by omega)); simp only at c0 c1 c2 c3; have hbel2 : Below w.heap.size w w2 := hbel.trans (ho.below (by omega))))
                  all_goals
                    refine bodyPost_ret (v := .tuple #[.agg #[S g, S ind, S data, .slice va (subs).length vc], .int .i64 k]) (by rw [results_cell_tmp rfl]; go_simp) rfl ?_
                    exact fieldPost_err HE.out ((((hbel2.setCell (Nat.le_refl _) _).setCell (Nat.le_refl _) _).setCell (Nat.le_refl _) _).setCell (Nat.le_refl _) _) ⟨g, ind, data, subs⟩ _ rfl
                | some y =>
                  have HN : Hid (fieldR g l = fieldGo true (l.drop (k + 1)) (k + 1) (prevOf l (k + 1)) ⟨⟨g, ind, data ++ [c], subs⟩, y, false⟩) := by rw [HG.out, HS.out, show fieldStep true k (prevOf l k) c ⟨⟨g, ind, data, subs⟩, x, false⟩ = some ⟨⟨g, ind, data ++ [c], subs⟩, y, false⟩ from by simp [fieldStep, hl0, hc30, hnx]]; rfl
                  have HY := Lib.hid (chFine_next HB4.out hnx)
                  have HNX : Hid (∀ W, ChAt W (w.heap.size + 1 + 1) x → Calls Tryd.prog 86 #[.pointer (some ⟨w.heap.size + 1 + 1, 0, none⟩), .int .u8 c.toNat] W fun e w' => e = .returned (.bool true) ∧ Only (w.heap.size + 1 + 1) W w' ∧ ChAt w' (w.heap.size + 1 + 1) y) := fun W h => next_some HB4.out h hnx
                  clear hl0 h30 hc30 hnx
                  have qq : ¬ 9223372036854775807 < List.length data + 1 := by omega
                  go_wp2_with (go_at_call 86; ((with_reducible refine Calls.mono (HNX.out _ HCH.out) ?_); rintro e w2 ⟨rfl, ho, hcz⟩; have HF2 := Lib.hid (HFD.out.next ho hcz); obtain ⟨c0, c1, c2, c3, f1, f2, f3⟩ := HF2.out.loc; simp only at c0 c1 c2 c3))
                  go_region
                  go_wp2_with fail
                  go_roundw
                  case rel => exact ⟨k + 1, ⟨⟨g, ind, data ++ [c], subs⟩, y, false⟩, _, by omega, by go_num, rfl, HN, rfl, ⟨by simp only; omega, by simp only; omega, by simp; omega, HY.out, fun t ht => Nat.le_succ_of_le (HB5.out t ht)⟩, (HF2.out.setData (data ++ [c])).drew⟩
                  case measure => simp [intOf]; omega
          · have e1 : ((x.left : Int) == 0) = false := by simp; omega
            cases hnx : chNext x c with
            | none =>
              have HE : Hid (fieldR g l = .error k) := by rw [HG.out, HS.out, show fieldStep true k (prevOf l k) c ⟨⟨g, ind, data, subs⟩, x, false⟩ = none from by simp [fieldStep, hl0, hnx]]; rfl
              have HNX : Hid (∀ W, ChAt W (w.heap.size + 1 + 1) x → Calls Tryd.prog 86 #[.pointer (some ⟨w.heap.size + 1 + 1, 0, none⟩), .int .u8 c.toNat] W fun e w' => e = .returned (.bool false) ∧ Only (w.heap.size + 1 + 1) W w') := fun W h => next_none HB4.out h hnx
              clear hl0 hnx
              go_wp2_with (go_at_call 86; ((with_reducible refine Calls.mono (HNX.out _ HCH.out) ?_); rintro e w2 ⟨rfl, ho⟩; obtain ⟨r0, r1, r2, r3, q0, q1, q2, q3⟩ := HFD.out.res.of (ho.block _ (by omega)); obtain ⟨c0, c1, c2, c3, f1, f2, f3⟩ := HFD.out.loc.of (ho.block _ (by omega)); simp only at c0 c1 c2 c3; have hbel2 : Below w.heap.size w w2 := hbel.trans (ho.below (by omega))))
              all_goals
                refine bodyPost_ret (v := .tuple #[.agg #[S g, S ind, S data, .slice va (subs).length vc], .int .i64 k]) (by rw [results_cell_tmp rfl]; go_simp) rfl ?_
                exact fieldPost_err HE.out ((((hbel2.setCell (Nat.le_refl _) _).setCell (Nat.le_refl _) _).setCell (Nat.le_refl _) _).setCell (Nat.le_refl _) _) ⟨g, ind, data, subs⟩ _ rfl
            | some y =>
              have HN : Hid (fieldR g l = fieldGo true (l.drop (k + 1)) (k + 1) (prevOf l (k + 1)) ⟨⟨g, ind, data ++ [c], subs⟩, y, false⟩) := by rw [HG.out, HS.out, show fieldStep true k (prevOf l k) c ⟨⟨g, ind, data, subs⟩, x, false⟩ = some ⟨⟨g, ind, data ++ [c], subs⟩, y, false⟩ from by simp [fieldStep, hl0, hnx]]; rfl
              have HY := Lib.hid (chFine_next HB4.out hnx)
              have HNX : Hid (∀ W, ChAt W (w.heap.size + 1 + 1) x → Calls Tryd.prog 86 #[.pointer (some ⟨w.heap.size + 1 + 1, 0, none⟩), .int .u8 c.toNat] W fun e w' => e = .returned (.bool true) ∧ Only (w.heap.size + 1 + 1) W w' ∧ ChAt w' (w.heap.size + 1 + 1) y) := fun W h => next_some HB4.out h hnx
              clear hl0 hnx
              have qq : ¬ 9223372036854775807 < List.length data + 1 := by omega
              go_wp2_with (go_at_call 86; ((with_reducible refine Calls.mono (HNX.out _ HCH.out) ?_); rintro e w2 ⟨rfl, ho, hcz⟩; have HF2 := Lib.hid (HFD.out.next ho hcz); obtain ⟨c0, c1, c2, c3, f1, f2, f3⟩ := HF2.out.loc; simp only at c0 c1 c2 c3))
              go_region
              go_wp2_with fail
              go_roundw
              case rel => exact ⟨k + 1, ⟨⟨g, ind, data ++ [c], subs⟩, y, false⟩, _, by omega, by go_num, rfl, HN, rfl, ⟨by simp only; omega, by simp only; omega, by simp; omega, HY.out, fun t ht => Nat.le_succ_of_le (HB5.out t ht)⟩, (HF2.out.setData (data ++ [c])).drew⟩
              case measure => simp [intOf]; omega
      · have HE : Hid (fieldR g l = .error k) := by rw [HG.out, HS.out]; rfl
        go_wp2_with fail
        refine bodyPost_ret (v := .tuple #[.agg #[S g, S ind, S data, .slice va subs.length vc], .int .i64 k]) (by rw [results_cell_tmp rfl]; go_simp) rfl ?_
        refine fieldPost_err HE.out ?_ ⟨g, ind, data, subs⟩ _ rfl
        exact (((hbel.setCell (Nat.le_refl _) _).setCell (Nat.le_refl _) _).setCell (Nat.le_refl _) _).setCell (Nat.le_refl _) _
    · have HG2 : Hid (fieldR tag l = if st.ended then .ok st.f else .error ((k : Int) - 1)) := by
        rw [HG.out, List.drop_of_length_le (by omega)]; rfl
      have HFD := Lib.hid hf
      obtain ⟨⟨g, ind, data, subs⟩, x, ended⟩ := st
      simp only at htag
      subst htag
      obtain ⟨va, vc, rfl⟩ := owns_shape hf.own
      obtain ⟨hbel, hbig, ⟨r0, r1, r2, r3, q0, q1, q2, q3⟩, ⟨c0, c1, c2, c3, f1, f2, f3⟩, _, hown⟩ := hf
      have HOWN := Lib.hid hown
      simp only at c0 c1 c2 c3
      clear hown
      cases ended
      · have HE : Hid (fieldR g l = .error ((k : Int) - 1)) := HG2.out
        have hke : l.length = k := by omega
        have HKE := Lib.hid hke
        have hk1 : 1 ≤ (k : Int) := by omega
        have hk2 : (l.length : Int) = k := by omega
        clear hke
        go_wp2_with fail
        refine bodyPost_ret (v := .tuple #[.agg #[S g, S ind, S data, .slice va subs.length vc], .int .i64 ((k : Int) - 1)]) (by rw [results_cell_tmp rfl]; go_simp) rfl ?_
        exact fieldPost_err HE.out ((((hbel.setCell (Nat.le_refl _) _).setCell (Nat.le_refl _) _).setCell (Nat.le_refl _) _).setCell (Nat.le_refl _) _) ⟨g, ind, data, subs⟩ _ rfl
      · have HE : Hid (fieldR g l = .ok ⟨g, ind, data, subs⟩) := HG2.out
        go_wp2_with fail
        refine bodyPost_ret (v := .tuple #[.agg #[S g, S ind, S data, .slice va subs.length vc], .int .i64 (-1)]) (by rw [results_cell_tmp rfl]; go_simp) rfl ?_
        refine fieldPost_ok HE.out ((((hbel.setCell (Nat.le_refl _) _).setCell (Nat.le_refl _) _).setCell (Nat.le_refl _) _).setCell (Nat.le_refl _) _) _ rfl ?_
        have h1 := ownsRow_setCell_below (ownsRow_setCell_below (ownsRow_setCell_below (ownsRow_setCell_below HOWN.out (a := ⟨w.heap.size, 0, none⟩) (by simp) (S g)) (a := ⟨w.heap.size, 1, none⟩) (by simp) (S ind)) (a := ⟨w.heap.size, 2, none⟩) (by simp) (S data)) (a := ⟨w.heap.size, 3, none⟩) (by simp) (.slice va subs.length vc)
        exact owns_subs h1 (by omega)
end Go.Proofs.YtfkleeigdplapaaDoor
