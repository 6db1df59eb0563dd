/-
  The walk of reversed: the bytes of characters, whatever order the map is gone through in.
-/
import Derived.Test.YtpkacoknpedolaaDoorC1
import Derived.Maps.RangeWalk
import Derived.Maps.Ext
namespace Go.Proofs.YtpkacoknpedolaaDoor
open Go.RowKit Go.Maps

/-- A map of characters to bytes in block b. -/
def MapR (w : World) (b n : Nat) (g : Nat → Option Nat) : Prop := ∃ D : DataW Unit, w.ownsMap Tryd.prog 21 (plainElem Tryd.prog 5) b n D ∧
  (∀ c : Nat, Maps.has D (.int .i32 c) = (g c).isSome) ∧ ∀ c : Nat, D.atKey (.int .i32 c) (.lit (.int .u8 0)) = .lit (.int .u8 ((g c).getD 0 : Nat))
theorem zero5 (w : World) : (zeroValue 5).run Tryd.prog w = .ok (.int .u8 0) w := by kernel_rfl
theorem keyOf_i32 (c : Nat) (h : c < 2147483648) : keyOf Tryd.prog 21 (.int .i32 c) = some (.int .i32 c) := keyOf_int_mk Tryd.underlying21 (wf_i32n c h)
set_option maxRecDepth 100000 in
theorem MapR.look {w : World} {b n : Nat} {g : Nat → Option Nat} (h : MapR w b n g) (c : Nat) (hc : c < 2147483648) :
    (Instr.lookup 66 (.map (some b)) (.int .i32 c) true).run Tryd.prog w = .ok (.tuple #[.int .u8 ((g c).getD 0 : Nat), .bool (g c).isSome]) w := by
  obtain ⟨D, ho, h1, h2⟩ := h
  obtain ⟨v, ps, hr, hv⟩ := ho.look_ok keyed21 Tryd.underlying66 (zero5 w) (zd := .lit (.int .u8 0)) (zp := []) (plainElem_int Tryd.underlying5 (by decide)) (keyOf_i32 c hc)
  obtain ⟨x, rfl, hx, _⟩ := plainElem_int_inv Tryd.underlying5 hv
  have h3 : D.atKey (.int .i32 c) (.lit (.int .u8 0)) = .lit (.int .u8 x) := congrArg Prod.fst hx
  have h4 : (DataW.lit (.int .u8 ((g c).getD 0 : Nat)) : DataW Unit) = .lit (.int .u8 x) := (h2 c).symm.trans h3
  have h5 : (((g c).getD 0 : Nat) : Int) = x := by injection h4 with h4; injection h4
  rw [hr, h5, h1 c]
set_option maxRecDepth 100000 in
theorem MapR.look1 {w : World} {b n : Nat} {g : Nat → Option Nat} (h : MapR w b n g) (c : Nat) (hc : c < 2147483648) :
    (Instr.lookup 66 (.map (some b)) (.int .i32 c) false).run Tryd.prog w = .ok (.int .u8 ((g c).getD 0 : Nat)) w := by
  obtain ⟨D, ho, h1, h2⟩ := h
  obtain ⟨x, hr, hx, _⟩ := ho.lookup_int keyed21 Tryd.underlying66 Tryd.underlying5 (zero5 w) (keyOf_i32 c hc)
  have h4 : (DataW.lit (.int .u8 ((g c).getD 0 : Nat)) : DataW Unit) = .lit (.int .u8 x) := (h2 c).symm.trans hx
  have h5 : (((g c).getD 0 : Nat) : Int) = x := by injection h4 with h4; injection h4
  rw [hr, h5]
theorem MapR.maps {w w' : World} {b n : Nat} {g : Nat → Option Nat} (h : MapR w b n g) (k : MapsKept w w') : MapR w' b n g := by
  obtain ⟨D, ⟨es, clock, hh, F, hs, hD⟩, h1, h2⟩ := h
  exact ⟨D, ⟨es, clock, (k _ _ _ hh).trans hh, F, hs, hD⟩, h1, h2⟩
/-- Between: what stands in the reversed map when some keys are still to come. -/
structure Rev (f : Nat → Option Nat) (D Dout : DataW Unit) (left : Lit → Bool) : Prop where
  sub : ∀ kl, left kl = true → Maps.has D kl = true
  has : ∀ c : Nat, Maps.has Dout (.int .i32 c) = true ↔ ∃ b : Nat, f b = some c ∧ left (.int .u8 b) = false
  at_ : ∀ b c : Nat, f b = some c → left (.int .u8 b) = false → ∀ z, Dout.atKey (.int .i32 c) z = .lit (.int .u8 b)
theorem same_self (b : Nat) : (Lit.int .u8 (b : Int)).sameKey (.int .u8 b) = true := by simp [Lit.sameKey]
theorem lit_ne32 {a b : Nat} (h : a ≠ b) : (Lit.int .i32 (a : Int)) ≠ .int .i32 (b : Int) := by intro e; injection e with _ e; omega
theorem rev_start {f : Nat → Option Nat} {D : DataW Unit} (h1 : ∀ k : Nat, Maps.has D (.int .u8 k) = (f k).isSome) : Rev f D (.map []) (Maps.has D) :=
  ⟨fun _ h => h, fun c => ⟨(fun h => by cases h), (fun ⟨b, hb, hl⟩ => by rw [h1, hb] at hl; cases hl)⟩, fun b c hb hl => (by rw [h1, hb] at hl; cases hl)⟩
theorem rev_step {f g : Nat → Option Nat} (hfg : ∀ b c, f b = some c → g c = some b) {D Dout : DataW Unit} {left : Lit → Bool} (h : Rev f D Dout left) (hm : Maps.IsMap Dout) (x c : Nat) (hx : f x = some c) :
    Rev f D (Dout.put (.int .i32 c) (.lit (.int .u8 x))) (fun z => left z && !z.sameKey (.int .u8 x)) := by
  have hother : ∀ b : Nat, b ≠ x → (left (.int .u8 b) && !(Lit.int .u8 (b : Int)).sameKey (.int .u8 x)) = left (.int .u8 b) := fun b hb => by rw [Maps.sameKey_ne (lit_ne hb)]; simp
  have hself : (left (.int .u8 x) && !(Lit.int .u8 (x : Int)).sameKey (.int .u8 x)) = false := by rw [same_self]; simp
  refine ⟨fun kl hk => h.sub kl (by simp at hk; exact hk.1), fun c' => ?_, fun b c' hb hl z => ?_⟩
  · by_cases e : c' = c
    · subst e
      rw [Maps.has_put_same (k := .int .i32 (c' : Int)) hm trivial]
      exact ⟨fun _ => ⟨x, hx, hself⟩, fun _ => rfl⟩
    · rw [Maps.has_put_other (lit_ne32 e), h.has]
      constructor
      · rintro ⟨b, hb, hl⟩
        refine ⟨b, hb, ?_⟩
        rw [hl]; rfl
      · rintro ⟨b, hb, hl⟩
        refine ⟨b, hb, ?_⟩
        have hbx : b ≠ x := fun e2 => e (by subst e2; rw [hx] at hb; injection hb with hb; exact hb.symm)
        rw [hother b hbx] at hl
        exact hl
  · by_cases e : b = x
    · subst e
      rw [hx] at hb; injection hb with hb; subst hb
      rw [Maps.atKey_put_same (k := .int .i32 (c : Int)) hm trivial]
    · have hc : c' ≠ c := fun e2 => e (by subst e2; have h1 := hfg _ _ hb; rw [hfg _ _ hx] at h1; injection h1 with h1; exact h1.symm)
      rw [Maps.atKey_put_other (lit_ne32 hc)]
      rw [hother b e] at hl
      exact h.at_ b c' hb hl z
theorem rev_end {w : World} {m n : Nat} {f g : Nat → Option Nat} (hfg : ∀ b c, f b = some c → g c = some b) (hgf : ∀ b c, g c = some b → f b = some c) {D Dout : DataW Unit} {left : Lit → Bool} (h : Rev f D Dout left) (hl : ∀ kl, left kl = false) (ho : w.ownsMap Tryd.prog 21 (plainElem Tryd.prog 5) m n Dout) : MapR w m n g := by
  refine ⟨Dout, ho, fun c => ?_, fun c => ?_⟩
  · cases hg : g c with
    | some b => exact (h.has c).2 ⟨b, hgf _ _ hg, hl _⟩
    | none =>
      cases hh : Maps.has Dout (.int .i32 c) with
      | false => rfl
      | true =>
        obtain ⟨b, hb, _⟩ := (h.has c).1 hh
        rw [hfg _ _ hb] at hg; cases hg
  · cases hg : g c with
    | some b => exact h.at_ b c (hgf _ _ hg) (hl _) _
    | none =>
      have hh : Maps.has Dout (.int .i32 c) = false := by
        cases hh : Maps.has Dout (.int .i32 c) with
        | false => rfl
        | true =>
          obtain ⟨b, hb, _⟩ := (h.has c).1 hh
          rw [hfg _ _ hb] at hg; cases hg
      rw [Maps.atKey_of_not_has hh]; rfl
set_option maxHeartbeats 1000000 in
set_option maxRecDepth 100000 in
theorem reversed_33 (b n : Nat) (f g : Nat → Option Nat) (hfg : ∀ b c, f b = some c → g c = some b) (hgf : ∀ b c, g c = some b → f b = some c) (w : World) (h : MapB w b n f) :
    Calls Tryd.prog 33 #[.map (some b)] w fun e w' => ∃ m k, e = .returned (.map (some m)) ∧ MapR w' m k g ∧ Below w.heap.size w w' ∧ w.heap.size ≤ m := by
  obtain ⟨D0, hown, hh0, ha0⟩ := h
  have hmax : Maps.size D0 ≤ maxLen := by
    obtain ⟨es, clock, hh, F, hs, hD⟩ := hown
    have := World.ownsMap.size_le (⟨es, clock, hh, F, Nat.le_refl _, hD⟩ : w.ownsMap Tryd.prog 5 (plainElem Tryd.prog 21) b es.size D0)
    exact Nat.le_trans this F.size
  have hmm := @run_makeMap Tryd.prog
  have hbl := hown.lt
  have e1 : (w.alloc (.map #[] 0)).heap.size = w.heap.size + 1 := by simp
  have HFG := Lib.hid hfg
  have HGF := Lib.hid hgf
  have HH := Lib.hid hh0
  have HA := Lib.hid ha0
  clear hfg hgf hh0 ha0
  go_enter Tryd.func33, Tryd.ntmps33
  go_wp2_with (first
    | (at_range; refine wpList_range_own _ rfl _ 50 rfl 5 21 keyed5 Tryd.underlying50 _ b n _ rfl (hown.alloc _) ?_; intro w0 hrg0 hg0 hs0)
    | go_in)
  go_frame
  rw [e1] at hrg0 hs0 ⊢
  go_loopw [5] (fun _ wr => ∃ (left : Lit → Bool) (cnt : Nat) (Dout : DataW Unit), wr.ranges Tryd.prog 5 (plainElem Tryd.prog 21) b (w.heap.size + 1) n D0 left cnt ∧ cnt ≤ Maps.size D0 ∧
      wr.ownsMap Tryd.prog 21 (plainElem Tryd.prog 5) w.heap.size (Maps.size D0 - cnt) Dout ∧ Hid (Rev f D0 Dout left) ∧ Below w.heap.size w wr)
    (fun _ wr => wr.rangeLeft b (w.heap.size + 1))
  case atStart =>
    exact ⟨_, _, .map [], hrg0, Nat.le_refl _, ((World.ownsMap_made _ _ _ _).kept hg0 (by simp)).mono (Nat.zero_le _), rev_start HH.out, ((Below.refl _ _).alloc (Nat.le_refl _) _).grown hg0 (by simp) (fun j hj => by cases hj)⟩
  case round =>
    obtain ⟨left, cnt, Dout, hrg, hcs, hout, HR, hnx⟩ := hrel
    go_wp2_with (first
      | (at_next; refine wpList_next_ranges_ii _ rfl _ rfl 5 21 .u8 .i32 keyed5 Tryd.underlying5 Tryd.underlying21 b (w.heap.size + 1) n _ _ _ rfl hrg ?_ ?_)
      | go_in)
    · intro hc0 hl0
      go_wp2
      go_ret
      exact ⟨_, _, rfl, rev_end HFG.out HGF.out HR.out hl0 hout, hnx, Nat.le_refl _⟩
    · intro x c w1 cnt1 hwx hwc hlx hat hrg1 hlt hg1 hs1 hen
      have hout1 := hout.kept hg1 (by simp)
      have hx0 : 0 ≤ x ∧ x < 256 := by simp only [Lit.wf, IntKind.min, IntKind.max, IntKind.signed, IntKind.bits] at hwx; simp at hwx; omega
      obtain ⟨xn, rfl⟩ : ∃ n : Nat, x = n := ⟨x.toNat, by omega⟩
      have hfx : ∃ cn : Nat, c = cn ∧ f xn = some cn := by
        have h1 := HH.out xn
        rw [HR.out.sub _ hlx] at h1
        have h2 := HA.out xn
        rw [hat] at h2
        cases hf : f xn with
        | none => rw [hf] at h1; cases h1
        | some cn => rw [hf] at h2; exact ⟨cn, by injection h2 with h2; injection h2, rfl⟩
      obtain ⟨cn, rfl, hfx⟩ := hfx
      have HFX := Lib.hid hfx
      have HAT := Lib.hid hat
      clear hfx hat hlx
      go_wp2_with (first
        | (at_mapUpdate; refine wpList_mapUpdate_own _ rfl _ _ _ 66 rfl 21 5 keyed21 Tryd.underlying66 _ w.heap.size _ _ rfl hout1 (by omega) _ _ _ rfl rfl (keyOf_int_mk Tryd.underlying21 hwc) _ [] (plainElem_int Tryd.underlying5 hwx) ?_; intro w2 hout2 hg2; go_frame)
        | go_in)
      have hrg2 := hrg1.kept hg2 (fun e => by have := Option.some.inj e; omega) (fun e => by have := Option.some.inj e; omega)
      go_roundw
      case rel =>
        exact ⟨_, cnt1, _, hrg2, by omega, hout2.mono (by omega), rev_step HFG.out HR.out hout.isMap xn cn HFX.out,
          (hnx.grown hg1 hnx.size (fun j hj => by cases hj; exact Nat.le_succ _)).grown hg2 (by have := hnx.size; omega) (fun j hj => by cases hj; exact Nat.le_refl _)⟩
      case measure => rw [hrg2.left_eq, hrg.left_eq]; exact hlt
end Go.Proofs.YtpkacoknpedolaaDoor
