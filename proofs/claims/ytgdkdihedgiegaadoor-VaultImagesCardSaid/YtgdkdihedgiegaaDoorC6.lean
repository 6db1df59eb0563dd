/-
  The walks of piece, parse and copied.
  The walk of copied: where the copy is.
-/
import Derived.Test.YtgdkdihedgiegaaDoorC5
import Derived.WalkMore
namespace Go.Proofs.YtgdkdihedgiegaaDoor
open Go.RowKit

/-- The post of piece. -/
def PiecePost (o : Option (Bs × Bs)) (w : World) (e : Ending) (w' : World) : Prop :=
  (match o with
    | none => e = .returned (.tuple #[S [], S [], .bool false])
    | some (a, z) => e = .returned (.tuple #[S a, S z, .bool true])) ∧ Below w.heap.size w w'
set_option maxHeartbeats 1000000 in
set_option maxRecDepth 100000 in
theorem piece_60 (s : Bs) (w : World) (hs : s.length ≤ 100000000) : Calls Tryd.prog 60 #[S s] w (PiecePost (pieceR s) w) := by
  have HR := readNumber_72 s w hs
  obtain ⟨n, k, x, hrd⟩ : ∃ n k x, readNumR s = (n, k, x) := ⟨_, _, _, rfl⟩
  have hp : pieceR s = if x = 0 ∧ n ≤ s.length - k then some ((s.drop k).take n, s.drop (k + n)) else none := by unfold pieceR; rw [hrd]
  rw [hrd] at HR
  have HR := Lib.hid HR
  rw [hp]
  clear hp
  by_cases hx : x = 0
  · subst hx
    obtain ⟨z, h1, h2, h3, h4⟩ := read_form s n k hrd
    have hk : k ≤ s.length := by rw [h1, h2]; simp
    clear h1 h2 hrd
    have e1 : IntKind.u64.wrap ((s.length : Int) - (k : Int)) = s.length - k := IntWalk.u64_in _ (by omega)
    by_cases hn : n ≤ s.length - k
    · have hc : (0 : Int) = 0 ∧ n ≤ s.length - k := ⟨rfl, hn⟩
      rw [if_pos hc]
      have e2 : IntKind.i64.wrap (n : Int) = n := IntWalk.i64_in _ (by omega)
      have hn2 : (n : Int) ≤ s.length - k := by omega
      clear hc
      go_enter Tryd.func60, Tryd.ntmps60
      go_wp2_with (go_at_call 72; ((with_reducible refine Calls.mono HR.out ?_); rintro e w1 ⟨rfl, hb⟩; have HB := Lib.hid hb; clear hb))
      go_quiet (fail)
      go_wp2_with fail
      go_ret3
      refine ⟨?_, HB.out.trans ⟨rfl, rfl, rfl, Nat.le_refl _, fun _ _ => rfl⟩⟩
      have ed : (s.drop k).take n = (s.take (k + n)).drop k := by rw [List.drop_take]; congr 1; omega
      rw [ed]
      rfl
    · have hc : ¬ ((0 : Int) = 0 ∧ n ≤ s.length - k) := fun h => hn h.2
      rw [if_neg hc]
      have hn2 : (s.length : Int) - k < n := by omega
      clear hc
      go_enter Tryd.func60, Tryd.ntmps60
      go_wp2_with (go_at_call 72; ((with_reducible refine Calls.mono HR.out ?_); rintro e w1 ⟨rfl, hb⟩; have HB := Lib.hid hb; clear hb))
      go_ret3
      exact ⟨rfl, HB.out⟩
  · have hc : ¬ (x = 0 ∧ n ≤ s.length - k) := fun h => hx h.1
    rw [if_neg hc]
    have hx2 : (x == 0) = false := by simpa using hx
    clear hc hrd
    go_enter Tryd.func60, Tryd.ntmps60
    go_wp2_with (go_at_call 72; ((with_reducible refine Calls.mono HR.out ?_); rintro e w1 ⟨rfl, hb⟩; have HB := Lib.hid hb; clear hb))
    go_ret3
    exact ⟨rfl, HB.out⟩
theorem s_nil_eq (l : Bs) : (S l = S []) = (l = []) := by simp
/-- A tail in memory: strings in a row of the call's own. -/
abbrev StrRow (w : World) (lo : Nat) (v : Value) (l : List Bs) : Prop := w.ownsRow lo 9 1 v l.length (l.map S)
theorem i9 : (Tryd.prog.info? 9).map (fun i => (i.zero, i.size, i.bytes)) = some (some (S []), 1, 16) := by kernel_rfl
theorem row_base {w : World} {lo : Nat} {e : TypeId} {k n : Nat} {v : Value} {xs : List Value} (h : w.ownsRow 0 e k v n xs) (hlo : ∀ g, v.ownBlock = some g → lo ≤ g) : w.ownsRow lo e k v n xs := by
  refine ⟨h.1, ?_⟩
  rcases h.2 with hn | ⟨g, cap, cur, rfl, _, hr⟩
  · exact .inl hn
  · exact .inr ⟨g, cap, cur, rfl, hlo g rfl, hr⟩
theorem strs_one (l : List Bs) : ∀ u ∈ l.map S, u.oneCell' = true := by
  intro u hu
  obtain ⟨r, _, rfl⟩ := List.mem_map.1 hu
  rfl
theorem run_strs (w : World) (lo : Nat) (v : Value) (l ns : List Bs) (h : StrRow w lo v l) (y : Value) (hf : From w y ns.length (ns.map S)) (hlo : lo ≤ w.heap.size) (hs : l.length + ns.length ≤ 1000000000) :
    ∃ v' w', (Builtin.append_ #[27, 27] 27 #[v, y]).run Tryd.prog w = .ok v' w' ∧ StrRow w' lo v' (l ++ ns) ∧ Onto w w' v v' := by
  obtain ⟨v', w', hr, h2, h3⟩ := run_from 27 27 9 (S []) 1 16 Tryd.underlying27 i9 rfl (by decide) (by decide) w v l.length (l.map S) (row_mono h (Nat.zero_le _)) y ns.length (ns.map S) hf (by simp) (strs_one ns) hs
  refine ⟨v', w', hr, ?_, h3⟩
  show World.ownsRow _ _ _ _ _ _ _
  rw [List.length_append, List.map_append]
  refine row_base h2 (fun g hg => ?_)
  rcases h3.at_ with h4 | h4
  · exact (h.lt g (h4 ▸ hg)).1
  · rw [h4] at hg; injection hg with hg; omega
theorem wpList_strs {w : World} {ops : Array Oper} {rest : List Oper} {o : Oper} {a : Act} {Q : Exit → Act → World → Prop} (hgd : o.guard = none) (sl x : Operand) (ho : o.op = .call { callee := .builtin .append, args := #[sl, x], argTypes := #[27, 27] }) (hty : o.type = 27)
    (lo : Nat) (v y : Value) (l ns : List Bs) (hs : a.eval sl = v) (hx : a.eval x = y) (h : StrRow w lo v l) (hf : From w y ns.length (ns.map S)) (hlo : lo ≤ w.heap.size) (hsm : l.length + ns.length ≤ 1000000000)
    (hk : ∀ v' w', Hid (StrRow w' lo v' (l ++ ns)) → Hid (Onto w w' v v') → wpList Tryd.prog ops Q rest (a.put o.dst v') w') : wpList Tryd.prog ops Q (o :: rest) a w := by
  obtain ⟨v', w', hr, h2, h3⟩ := run_strs w lo v l ns h y hf hlo hsm
  exact wpList_run hgd sl x 27 27 27 ho hty v _ v' w' hs hx hr (hk v' w' h2 h3)
theorem from_new (w : World) (u : Value) (t : TypeId) : From (w.alloc (.cells #[u] t)) (.slice (some ⟨w.heap.size, 0, none⟩) 1 1) 1 [u] := ⟨⟨_, _, rfl, fun _ => ⟨_, rfl, fun i x hu => by
  rw [add_lit, Nat.zero_add]
  match i, hu with
  | 0, hu => simp at hu; subst hu; exact World.cell?_alloc_new w _ _ 0⟩⟩⟩
theorem below_onto {B : Nat} {w0 w w' : World} {v v' : Value} (hb : Below B w0 w) (h : Onto w w' v v') (hB : B ≤ w.heap.size) (hv : ∀ g, v.ownBlock = some g → B ≤ g) : Below B w0 w' := hb.grown h.grown hB (fun g hg => hv g hg)
/-- The post of parse. -/
def ParsePost (o : Option (Bs × List Bs × Nat)) (w : World) (e : Ending) (w' : World) : Prop :=
  (match o with
    | none => e = .returned (.tuple #[S [], .slice none 0 0, .int .i64 0, .bool false])
    | some (sn, tl, n) => ∃ v, e = .returned (.tuple #[S sn, v, .int .i64 n, .bool true]) ∧ StrRow w' w.heap.size v tl) ∧ Below w.heap.size w w'
theorem recs_nil (f : Nat) : recsR f [] = some ([], []) := by cases f <;> rfl
def strOf : Value → Nat
  | .string s => s.size
  | _ => 0
theorem recs_zero (f : Nat) (t : Bs) : recsR f (0 :: t) = some ([], 0 :: t) := by cases f <;> rfl
theorem recs_one (f : Nat) (t : Bs) : recsR (f + 1) (1 :: t) = match pieceR t with | none => none | some (r, z) => match recsR f z with | none => none | some (l, y) => some (r :: l, y) := by
  rw [recsR, if_neg (by decide), if_pos rfl]
  rfl
theorem recs_bad (f : Nat) (b : UInt8) (t : Bs) (h0 : b ≠ 0) (h1 : b ≠ 1) : recsR f (b :: t) = none := by cases f <;> simp [recsR, h0, h1]
set_option maxHeartbeats 4000000 in
set_option maxRecDepth 100000 in
theorem parse_36 (s : Bs) (w : World) (hs : s.length ≤ 100000000) : Calls Tryd.prog 36 #[S s] w (ParsePost (parseR s) w) := by
  by_cases h0 : s = []
  · subst h0
    have HP : Hid (parseR [] = some ([], [], 0)) := rfl
    rw [HP.out]
    go_enter Tryd.func36, Tryd.ntmps36
    go_wp2_with fail
    go_step3
    go_wp2_with fail
    try rw [Exit.noGoto_ret]
    refine bodyPost_ret (v := .tuple #[S [], .slice none 0 0, .int .i64 0, .bool true]) (by simp [results, Tryd.results36, go_sem]) rfl ⟨⟨_, rfl, World.ownsRow_nil _ _ _ _⟩, Below.refl _ _⟩
  · have HPC := Lib.hid (piece_60 s w hs)
    have hie : List.isEmpty s = false := by simpa using h0
    cases hp : pieceR s with
    | none =>
      have HP : Hid (parseR s = none) := by show _ = _; unfold parseR; rw [if_neg h0, hp]
      rw [HP.out]
      rw [hp] at HPC
      clear hp
      go_enter Tryd.func36, Tryd.ntmps36
      go_wp2_with fail
      go_step3
      go_wp2_with (go_at_call 60; ((with_reducible refine Calls.mono HPC.out ?_); rintro e w1 ⟨rfl, hb⟩; have HB := Lib.hid hb; clear hb))
      try rw [Exit.noGoto_ret]
      refine bodyPost_ret (v := .tuple #[S [], .slice none 0 0, .int .i64 0, .bool false]) (by simp [results, Tryd.results36, go_sem]) rfl ⟨rfl, HB.out⟩
    | some az =>
      obtain ⟨sn, z0⟩ := az
      have hz0 := (piece_form s sn z0 hp).2
      have HP : Hid (parseR s = match recsR z0.length z0 with | none => none | some (l, y) => some (sn, l, s.length - y.length)) := by show _ = _; unfold parseR; rw [if_neg h0, hp]; rfl
      rw [hp] at HPC
      clear hp
      go_enter Tryd.func36, Tryd.ntmps36
      go_wp2_with fail
      go_step3
      go_wp2_with (go_at_call 60; ((with_reducible refine Calls.mono HPC.out ?_); rintro e w1 ⟨rfl, hb⟩; have HB := Lib.hid hb; clear hb))
      go_step3
      go_wp2_with fail
      go_loopw [2, 3, 6] (fun y v x wr => ∃ (done : List Bs) (z : Bs) (f : Nat) (u : Value), y = S sn ∧ v = u ∧ x = S z ∧ z.length ≤ f ∧ z.length < s.length ∧ Hid (recsR z0.length z0 = (recsR f z).map (fun p => (done ++ p.1, p.2))) ∧ Hid (StrRow wr w.heap.size u done) ∧ done.length + z.length ≤ s.length ∧ Below w.heap.size w wr) (fun _ _ x _ => strOf x)
      case atStart => exact ⟨[], z0, z0.length, _, rfl, rfl, rfl, Nat.le_refl _, hz0, (by show _ = _; cases recsR z0.length z0 <;> simp), World.ownsRow_nil _ _ _ _, by simp; omega, HB.out⟩
      case round =>
        obtain ⟨done, z, f, u, rfl, rfl, rfl, hzf, hzs, HR, HO, hdl, hb⟩ := hrel
        obtain ⟨a, cap, rfl⟩ := row_shape HO.out
        cases z with
        | nil =>
          have HQ : Hid (recsR z0.length z0 = some (done, [])) := by have := HR.out; rw [recs_nil] at this; show _ = _; simpa using this
          have hpr := HP.out
          rw [HQ.out] at hpr
          have HX := Lib.hid hpr
          clear hpr
          go_wp2_with fail
          try rw [Exit.noGoto_ret]
          rw [HX.out]
          refine bodyPost_ret (v := .tuple #[S sn, .slice a done.length cap, .int .i64 s.length, .bool true]) (by simp [results, Tryd.results36, go_sem]) rfl ⟨⟨_, rfl, HO.out⟩, hb⟩
        | cons b t =>
          by_cases hb0 : b = 0
          · subst hb0
            have HQ : Hid (recsR z0.length z0 = some (done, 0 :: t)) := by have := HR.out; rw [recs_zero] at this; show _ = _; simpa using this
            have hpr := HP.out
            rw [HQ.out] at hpr
            have HX := Lib.hid hpr
            have hlt : (0 :: t : Bs).length ≤ s.length := by omega
            have HLT := Lib.hid hlt
            clear hpr
            go_wp2_with fail
            try rw [Exit.noGoto_ret]
            rw [HX.out]
            refine bodyPost_ret (v := .tuple #[S sn, .slice a done.length cap, .int .i64 ((s.length - (0 :: t : Bs).length : Nat) : Int), .bool true]) ?_ rfl ⟨⟨_, rfl, HO.out⟩, hb⟩
            have hcast : ((s.length - (0 :: t : Bs).length : Nat) : Int) = (s.length : Int) - ((t.length : Int) + 1) := by simp at hlt ⊢; omega
            rw [hcast]
            simp [results, Tryd.results36, go_sem]
            unfold wrap64
            simp at hlt
            omega
          · by_cases hb1 : b = 1
            · subst hb1
              have hzl : t.length < 100000000 := by simp at hzs; omega
              have HPT := Lib.hid (piece_60 t wr (by omega))
              obtain ⟨f', rfl⟩ : ∃ f', f = f' + 1 := ⟨f - 1, by simp at hzf; omega⟩
              have h1 := HR.out
              rw [recs_one] at h1
              cases hp : pieceR t with
              | none =>
                rw [hp] at h1 HPT
                have hpr := HP.out
                rw [h1] at hpr
                have HX := Lib.hid hpr
                clear hpr h1 hp
                go_wp2_with (go_at_call 60; ((with_reducible refine Calls.mono HPT.out ?_); rintro e w2 ⟨rfl, hb2⟩; have HB2 := Lib.hid hb2; clear hb2))
                try rw [Exit.noGoto_ret]
                rw [HX.out]
                refine bodyPost_ret (v := .tuple #[S [], .slice none 0 0, .int .i64 0, .bool false]) (by simp [results, Tryd.results36, go_sem]) rfl ⟨rfl, btr hb HB2.out hb.size⟩
              | some rz =>
                obtain ⟨r, z⟩ := rz
                have hzt := (piece_form t r z hp).2
                rw [hp] at h1 HPT
                have HR2 : Hid (recsR z0.length z0 = (recsR f' z).map (fun p => ((done ++ [r]) ++ p.1, p.2))) := by
                  show _ = _
                  rw [h1]
                  simp only
                  cases recsR f' z with
                  | none => rfl
                  | some p => simp
                clear h1 hp
                have HOW := HO
                go_wp2_with (first
                  | (go_at_call 60; ((with_reducible refine Calls.mono HPT.out ?_); rintro e w2 ⟨rfl, hb2⟩; have HB2 := Lib.hid hb2; have HO2 := Lib.hid (row_far HO.out (fun g hg => hb2.block g (row_lt HO.out g hg))); clear hb2))
                  | (at_builtin; refine wpList_strs rfl _ _ rfl rfl w.heap.size (.slice a done.length cap) (.slice (some ⟨w2.heap.size, 0, none⟩) 1 1) done [r] rfl rfl (row_far HO2.out (fun g hg => Below.heap_alloc _ _ _ (row_lt HO2.out g hg))) (from_new w2 (S r) 9) (by have := HB2.out.size; have := hb.size; simp; omega) (by simp; omega) ?_; intro v' w3 HO3 HON; obtain ⟨a', cap', hv'⟩ := row_shape HO3.out; subst hv'))
                go_roundw
                case rel =>
                  refine ⟨done ++ [r], z, f', _, rfl, rfl, rfl, by simp at hzf; omega, by simp at hzs; omega, HR2, ?_, by simp at hdl ⊢; omega, ?_⟩
                  · show World.ownsRow _ _ _ _ _ _ _
                    have h5 := HO3.out
                    unfold StrRow at h5
                    simp only [List.length_append, List.length_singleton] at h5 ⊢
                    exact h5
                  · refine below_onto (btr hb (HB2.out.alloc HB2.out.size _) hb.size) HON.out ?_ (fun g hg => (HO.out.lt g hg).1)
                    have := HB2.out.size; have := hb.size; simp; omega
                case measure => show z.length < (1 :: t : Bs).length; simp; omega
            · have HQ : Hid (recsR z0.length z0 = none) := by have := HR.out; rw [recs_bad f b t hb0 hb1] at this; show _ = _; simpa using this
              have hpr := HP.out
              rw [HQ.out] at hpr
              have HX := Lib.hid hpr
              have k0 : ((b.toNat : Int) == 0) = false := by simp; intro h; exact hb0 (u8_eq (by simpa using h))
              have k1 : ((b.toNat : Int) == 1) = false := by simp; intro h; exact hb1 (u8_eq (by have : (1 : UInt8).toNat = 1 := rfl; omega))
              clear hpr
              go_wp2_with fail
              try rw [Exit.noGoto_ret]
              rw [HX.out]
              refine bodyPost_ret (v := .tuple #[S [], .slice none 0 0, .int .i64 0, .bool false]) (by simp [results, Tryd.results36, go_sem]) rfl ⟨rfl, hb⟩
end Go.Proofs.YtgdkdihedgiegaaDoor

namespace Go.Proofs.YtgdkdihedgiegaaDoor
open Go.RowKit

/-- The bytes from place i + 1 to 8, read from the end. -/
def upR (c : Bs) (i : Nat) : Nat := ptrR ((c.drop (i + 1)).take (8 - i))
theorem up_step (c : Bs) (i : Nat) (hi : i < 8) (hc : 9 ≤ c.length) : upR c i = (c.getD (i + 1) 0).toNat + 256 * upR c (i + 1) := by
  unfold upR
  have h1 : i + 1 < c.length := by omega
  rw [List.drop_eq_getElem_cons h1, show 8 - i = (8 - (i + 1)) + 1 from by omega, List.take_succ_cons, ptrR]
  congr 2
  simp [h1]
theorem up_eight (c : Bs) : upR c 8 = 0 := by simp [upR, ptrR]
theorem up_big (c : Bs) (hc : 9 ≤ c.length) : ∀ i, i ≤ 8 → upR c i * 256 ^ i ≤ upR c 0 := by
  intro i
  induction i with
  | zero => intro _; simp
  | succ i ih =>
    intro hi
    have h1 := ih (by omega)
    rw [up_step c i (by omega) hc, Nat.add_mul] at h1
    have : 256 * upR c (i + 1) * 256 ^ i = upR c (i + 1) * 256 ^ (i + 1) := by rw [Nat.pow_succ, Nat.mul_comm 256 (upR c (i + 1)), Nat.mul_assoc, Nat.mul_comm 256]
    omega
theorem up_zero (c : Bs) : upR c 0 = ptrR ((c.drop 1).take 8) := rfl
theorem or_byte (k b : Nat) (hk : k < 16777216) (hb : b < 256) : bits .or .i64 ((k : Int) * 256) (b : Int) = ((b + 256 * k : Nat) : Int) := by
  have hx : 256 * k ||| b < 2 ^ 33 := Nat.or_lt_two_pow (by omega) (by omega)
  have h1 : (BitVec.ofInt 64 ((256 * k : Nat) : Int)).toNat = 256 * k := by rw [BitVec.ofInt_natCast, BitVec.toNat_ofNat]; exact Nat.mod_eq_of_lt (by omega)
  have h2 : (BitVec.ofInt 64 (b : Int)).toNat = b := by rw [BitVec.ofInt_natCast, BitVec.toNat_ofNat]; exact Nat.mod_eq_of_lt (by omega)
  have h3 : 256 * k ||| b = b + 256 * k := by
    have := Nat.two_pow_add_eq_or_of_lt (i := 8) (b := b) hb k
    rw [show (256 : Nat) = 2 ^ 8 from rfl]; omega
  rw [show (k : Int) * 256 = ((256 * k : Nat) : Int) from by omega]
  show IntKind.i64.wrap ((BitVec.ofInt 64 ((256 * k : Nat) : Int) ||| BitVec.ofInt 64 (b : Int)).toNat : Int) = _
  rw [BitVec.toNat_or, h1, h2, h3]
  exact IntWalk.i64_in _ (by omega)
/-- The post of copied. -/
def CopyPost (o : Option Nat) (w : World) (e : Ending) (w' : World) : Prop :=
  (match o with
    | none => ∃ k : Int, e = .returned (.tuple #[.int .i64 k, .bool false])
    | some k => e = .returned (.tuple #[.int .i64 k, .bool true])) ∧ w' = w
set_option maxHeartbeats 4000000 in
set_option maxRecDepth 100000 in
theorem copied_35 (c : Bs) (w : World) (hc : c.length ≤ 16777216) : Calls Tryd.prog 35 #[S c] w (CopyPost (copiedR c) w) := by
  by_cases h9 : c.length < 9 ∨ c.getD 0 0 ≠ 1
  · have HE : Hid (copiedR c = none) := by show _ = _; unfold copiedR; rw [if_pos h9]
    rw [HE.out]
    by_cases hl : c.length < 9
    · clear h9
      go_enter Tryd.func35, Tryd.ntmps35
      go_wp2_with fail
      go_ret2
      exact ⟨⟨0, rfl⟩, rfl⟩
    · have hb : c.getD 0 0 ≠ 1 := by rcases h9 with h | h; exact absurd h hl; exact h
      have hb2 : (((c[0]'(by omega)).toNat : Int) != 1) = true := by
        simp
        intro h
        apply hb
        have : c.getD 0 0 = c[0]'(by omega) := by simp [show 0 < c.length from by omega]
        rw [this]
        exact u8_eq (by have : (1 : UInt8).toNat = 1 := rfl; omega)
      have hl9 : 9 ≤ c.length := by omega
      clear h9 hb
      go_enter Tryd.func35, Tryd.ntmps35
      go_wp2_with fail
      go_ret2
      exact ⟨⟨0, rfl⟩, rfl⟩
  · have hl9 : 9 ≤ c.length := by omega
    have hb : c.getD 0 0 = 1 := by
      apply Classical.byContradiction; intro h; exact h9 (.inr h)
    have hb2 : (((c[0]'(Nat.lt_of_lt_of_le (by decide) hl9)).toNat : Int) != 1) = false := by
      have : c.getD 0 0 = c[0]'(Nat.lt_of_lt_of_le (by decide) hl9) := by simp [show 0 < c.length from by omega]
      rw [this] at hb
      rw [hb]
      rfl
    have HE : Hid (copiedR c = if upR c 0 % 64 = 0 ∧ 128 ≤ upR c 0 ∧ upR c 0 < c.length then some (upR c 0) else none) := by show _ = _; unfold copiedR; rw [if_neg h9]; rfl
    have HU := Lib.hid (up_big c hl9)
    clear h9 hb
    have hd9 : decide ((c.length : Int) < 9) = false := by simp; omega
    go_enter Tryd.func35, Tryd.ntmps35
    go_wp2_with fail
    clear hb2
    generalize (c[0]'(Nat.lt_of_lt_of_le (by decide) hl9)).toNat = b0
    go_loop [4, 5] (fun x y => ∃ i k : Nat, x = .int .i64 k ∧ y = .int .i64 i ∧ i ≤ 8 ∧ Hid (k = upR c i) ∧ Hid (k < 4294967296)) (fun _ y => (intOf y).toNat)
    case atStart => exact ⟨8, 0, rfl, rfl, by omega, (by show _ = _; rw [up_eight]), (by show _ < _; omega)⟩
    case round =>
      obtain ⟨i, k, rfl, rfl, hi, HK, hk⟩ := hrel
      by_cases h0 : 0 < i
      · by_cases hbig : 16777216 ≤ k
        · have hn : ¬ (upR c 0 % 64 = 0 ∧ 128 ≤ upR c 0 ∧ upR c 0 < c.length) := by
            intro h
            have h1 := HU.out i hi
            rw [← HK.out] at h1
            have h2 : 1 ≤ 256 ^ i := Nat.one_le_pow _ _ (by omega)
            have h3 : k * 1 ≤ k * 256 ^ i := Nat.mul_le_mul_left _ h2
            omega
          have hh := HE.out
          rw [if_neg hn] at hh
          have HX := Lib.hid hh
          have hdb : decide ((16777216 : Int) ≤ (k : Int)) = true := by simp; omega
          clear hn hh hbig
          go_wp2_with fail
          go_ret2
          rw [HX.out]
          exact ⟨⟨0, rfl⟩, rfl⟩
        · obtain ⟨j, rfl⟩ : ∃ j, i = j + 1 := ⟨i - 1, by omega⟩
          obtain ⟨b, hbb⟩ : ∃ b : Nat, b = (c.getD (j + 1) 0).toNat := ⟨_, rfl⟩
          have hst := up_step c j (by omega) hl9
          rw [← hbb, ← HK.out] at hst
          have hb256 : b < 256 := by rw [hbb]; exact UInt8.toNat_lt _
          have hib : j + 1 < c.length := by omega
          have hcb : ((c[j + 1]'hib).toNat : Int) = b := by rw [hbb]; simp [hib]
          have e1 := or_byte k b (by omega) hb256
          obtain ⟨m, hm⟩ : ∃ m : Nat, m = b + 256 * k := ⟨_, rfl⟩
          rw [← hm] at e1 hst
          have HST := Lib.hid hst
          have hmb : Hid (m < 4294967296) := by show _ < _; omega
          have hdb : decide ((16777216 : Int) ≤ (k : Int)) = false := by simp; omega
          have hkb : k < 16777216 := by omega
          clear hbb hst hm hbig
          go_wp2_with fail
          go_round
          case rel => exact ⟨j, m, rfl, rfl, by omega, HST.out.symm, hmb⟩
          case measure => simp [intOf]
      · obtain rfl : i = 0 := by omega
        have hh := HE.out
        rw [← HK.out] at hh
        by_cases hcond : k % 64 = 0 ∧ 128 ≤ k ∧ k < c.length
        · rw [if_pos hcond] at hh
          have HX := Lib.hid hh
          obtain ⟨d1, d2, d3⟩ := hcond
          have e1 : (k : Int).tmod 64 = 0 := by rw [Int.tmod_eq_emod_of_nonneg (by omega)]; omega
          have e2 : (k : Int) % 64 = 0 := by omega
          have e3 : decide ((128 : Int) ≤ (k : Int)) = true := by simp; omega
          clear hh
          go_wp2_with fail
          go_ret2
          rw [HX.out]
          exact ⟨rfl, rfl⟩
        · rw [if_neg hcond] at hh
          have HX := Lib.hid hh
          have HCO := Lib.hid hcond
          clear hh hcond
          go_wp2_with fail
          all_goals
            go_ret2
            rw [HX.out]
            first
              | exact ⟨⟨k, rfl⟩, rfl⟩
              | (have hkl : decide (k < c.length) = false := by
                   have := HCO.out
                   simp only [decide_eq_false_iff_not]
                   intro h
                   exact this ⟨by omega, by omega, h⟩
                 refine ⟨⟨k, ?_⟩, rfl⟩
                 show Ending.returned (.tuple #[.int .i64 k, .bool (decide (k < c.length))]) = _
                 rw [hkl])
end Go.Proofs.YtgdkdihedgiegaaDoor
