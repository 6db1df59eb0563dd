/-
  The walk of put: bytes are written to contents, which may grow.
-/
import Derived.Test.YtgdkdihedgiegaaDoorA3
namespace Go.Proofs.YtgdkdihedgiegaaDoor
open Go.RowKit

theorem onto_cell {w w' : World} {v v' : Value} (h : Onto w w' v v') {p : Addr} {u : Value} (hc : w.cell? p = some u) (hn : v.ownBlock ≠ some p.block) : w'.cell? p = some u := by
  rw [World.cell?_of_block (h.grown.block p.block (cell_lt hc) (fun e => hn e.symm))]; exact hc
/-- The source of a copy lies in no block of v's. -/
def Apart (x v : Value) : Prop := ∀ k, x.ownBlock = some k → v.ownBlock ≠ some k
theorem From.onto {w w' : World} {x : Value} {m : Nat} {news : List Value} {v v' : Value} (h : From w x m news) (hl : m ≠ 0 → news ≠ []) (ho : Onto w w' v v') (ha : Apart x v) : From w' x m news ∧ (m ≠ 0 → Apart x v') := by
  obtain ⟨a, cap, rfl, hc⟩ := h
  refine ⟨⟨a, cap, rfl, fun hm => ?_⟩, fun hm => ?_⟩
  · obtain ⟨ad, rfl, hcc⟩ := hc hm
    refine ⟨ad, rfl, fun j u hu => onto_cell ho (hcc j u hu) ?_⟩
    have h2 : (ad.add j).block = ad.block := by unfold Addr.add; split <;> rfl
    rw [h2]
    exact ha ad.block rfl
  · obtain ⟨ad, rfl, hcc⟩ := hc hm
    intro k hk
    injection hk with hk
    subst hk
    rcases ho.at_ with h1 | h1
    · rw [h1]; exact ha ad.block rfl
    · rw [h1]
      intro e
      injection e with e
      cases hn : news with
      | nil => exact hl hm hn
      | cons u news =>
        have := cell_lt (hcc 0 u (by rw [hn]; rfl))
        simp [Addr.add] at this
        omega
theorem row_some {w : World} {v : Value} {l : Bs} (h : ByteRow w v l) (h0 : l ≠ []) : ∃ g cap n, v = .slice (some ⟨g, 0, none⟩) n cap ∧ Hid (n = l.length) ∧ n ≤ cap := by
  rcases h.2 with ⟨_, h1⟩ | ⟨g, cap, cur, rfl, _, _, h2, _⟩
  · exact absurd (List.eq_nil_of_length_eq_zero h1) h0
  · exact ⟨g, cap, _, rfl, rfl, h2⟩
theorem Onto.then {w w1 w2 : World} {v v1 : Value} (h : Onto w w1 v v1) (h2 : w1.grownBy w2 v1.ownBlock) : Onto w w2 v v1 := by
  refine ⟨⟨h2.os.trans h.grown.os, h2.tape.trans h.grown.tape, h2.output.trans h.grown.output, Nat.le_trans h.grown.size h2.size, fun k hk hn => ?_⟩, h.at_, fun e => Nat.lt_of_lt_of_le (h.big e) h2.size⟩
  refine (h2.block k (Nat.lt_of_lt_of_le hk h.grown.size) ?_).trans (h.grown.block k hk hn)
  rcases h.at_ with h1 | h1
  · rw [h1]; exact hn
  · rw [h1]; intro e; injection e with e; omega
theorem put_ext (c s : Bs) (off k : Nat) (hk : off + s.length = c.length + k) : putR (c ++ zerosR k) off s = putR c off s := by
  apply ext_get
  · rw [put_len, put_len]; simp [zeros_len]; omega
  · intro i
    rw [put_get, put_get, get_app, get_zeros]
    split
    · rfl
    · split
      · rfl
      · rename_i h; rw [get_far c i (by omega)]
theorem wpList_copy_at {w : World} {ops : Array Oper} {rest : List Oper} {o : Oper} {a : Act} {Q : Exit → Act → World → Prop} (hgd : o.guard = none) (d s : Operand) (ho : o.op = .call { callee := .builtin .copy, args := #[d, s], argTypes := #[51, 51] })
    (dp : Option Addr) (dLen dCap : Nat) (x : Value) (hd : a.eval d = .slice dp dLen dCap) (hs : a.eval s = x) (g n cp : Nat) (c t : Bs) (off : Nat) (hn : n = c.length) (hrow : ByteRow w (.slice (some ⟨g, 0, none⟩) n cp) c) (hfrom : From w x t.length (bv t))
    (hfit : off + t.length ≤ c.length) (hdl : dLen = n - off) (hdp : t.length ≠ 0 → dp = some ⟨g, off, none⟩)
    (h : ∀ w', Hid (ByteRow w' (.slice (some ⟨g, 0, none⟩) n cp) (putR c off t)) → Hid (w.grownBy w' (some g)) → wpList Tryd.prog ops Q rest (a.put o.dst (goInt t.length)) w') : wpList Tryd.prog ops Q (o :: rest) a w :=
  wpList_copy hgd d s ho dp dLen dCap x hd hs (.slice (some ⟨g, 0, none⟩) n cp) c t off hrow hfrom hfit (by rw [hdl, hn]) (fun h0 => ⟨g, rfl, hdp h0⟩) h
theorem zeros_app (c : Bs) (k : Nat) : (c ++ zerosR k).length = c.length + k := by simp [zeros_len]
set_option maxHeartbeats 1000000 in
set_option maxRecDepth 100000 in
theorem put_52 (w : World) (v x : Value) (c s : Bs) (off : Nat) (h : ByteRow w v c) (hx : From w x s.length (bv s)) (ha : Apart x v) (hc : c.length ≤ 20000000) (ho : off ≤ 20000000) (hs : s.length ≤ 20000000) :
    Calls Tryd.prog 52 #[v, .int .i64 off, x] w fun e w' => ∃ v', e = .returned v' ∧ ByteRow w' v' (putR c off s) ∧ Onto w w' v v' := by
  have H := Lib.hid h
  have HX := Lib.hid hx
  have HA := Lib.hid ha
  have HLT := Lib.hid (row_lt h)
  obtain ⟨va, cap, rfl⟩ := row_shape h
  have hrow := h.2
  obtain ⟨xa, xcap, rfl, _⟩ := hx
  have hbs : s.length ≠ 0 → bv s ≠ [] := fun h h2 => h (by rw [← bv_len, h2]; rfl)
  have HBS := Lib.hid hbs
  clear h ha hbs
  rename_i hcl
  clear hcl
  have HROW := Lib.hid hrow
  clear hrow
  by_cases hm : c.length < off + s.length
  · obtain ⟨k, hk⟩ : ∃ k : Nat, off + s.length = c.length + k := ⟨off + s.length - c.length, by omega⟩
    have e1 : (off : Int) + (s.length : Int) - (c.length : Int) = k := by omega
    have hk0 : 0 < k := by omega
    have hkb : k ≤ 40000000 := by omega
    have HK := Lib.hid hk
    clear hk
    go_enter Tryd.func52, Tryd.ntmps52
    go_wp2_with (first
      | (at_builtin; refine wpList_zeros rfl _ _ rfl rfl (.slice va c.length cap) c k rfl rfl H.out hk0 (by omega) ?_; intro v1 w1 HB1 HO1; obtain ⟨g, cp, n, rfl, HN, hcp⟩ := row_some HB1.out (by intro e; have := congrArg List.length e; simp [zeros_len] at this; omega); have hon : (off : Int) ≤ (n : Int) := (by have h1 := HN.out; have h2 := HK.out; rw [zeros_app] at h1; omega); have hn2 : (n : Int) ≤ cp := (by omega))
      | (refine wpList_copy_at rfl (.tmp 22) (.tmp 23) rfl _ _ _ (.slice xa s.length xcap) rfl rfl g n cp (c ++ zerosR k) s off HN.out HB1.out (HX.out.onto HBS.out HO1.out HA.out).1 (Nat.le_of_eq (HK.out.trans (zeros_app c k).symm)) rfl (fun h0 => by have h1 := HN.out; have h2 := HK.out; rw [zeros_app] at h1; exact if_neg (by omega)) ?_; intro w2 HB2 HG2))
    all_goals
      go_ret
      have HE := put_ext c s off k HK.out
      first
        | exact ⟨_, rfl, HE ▸ HB2.out, HO1.out.then HG2.out⟩
        | (obtain rfl : cp = off := by assumption
           exact ⟨_, rfl, HE ▸ HB2.out, HO1.out.then HG2.out⟩)
  · have hk : off + s.length ≤ c.length := by omega
    have e1 : (off : Int) + (s.length : Int) - (c.length : Int) ≤ 0 := by omega
    have hon : (off : Int) ≤ (c.length : Int) := by omega
    rcases HROW.out with ⟨hv, hl⟩ | ⟨g, cp, cur, hv, _, _, hcp, _⟩
    · injection hv with h1 h2 h3
      subst h1 h3
      obtain rfl : c = [] := List.eq_nil_of_length_eq_zero hl
      obtain rfl : off = 0 := by simp at hk; omega
      obtain rfl : s = [] := List.eq_nil_of_length_eq_zero (by simp at hk; omega)
      have HP : Hid (putR [] 0 [] = []) := rfl
      clear hl hk hon e1 hm
      go_enter Tryd.func52, Tryd.ntmps52
      go_wp2_with (refine wpList_copy rfl (.tmp 22) (.tmp 23) rfl none 0 0 (.slice xa 0 xcap) rfl rfl (.slice none 0 0) [] [] 0 H.out HX.out (by simp) rfl (fun h0 => absurd rfl h0) ?_; intro w2 HB2 HG2)
      go_ret
      exact ⟨_, rfl, HB2.out, ⟨HG2.out, .inl rfl, fun e => by cases e⟩⟩
    · injection hv with h1 h2 h3
      subst h1 h3
      have hn2 : (c.length : Int) ≤ cap := by omega
      clear hm
      have HK := Lib.hid hk
      obtain ⟨n, HN⟩ : ∃ n, Hid (n = c.length) := ⟨_, rfl⟩
      rw [← HN.out] at H HLT hc hcp hon hn2 e1 ⊢
      clear hk
      go_enter Tryd.func52, Tryd.ntmps52
      go_wp2_with (refine wpList_copy_at rfl (.tmp 22) (.tmp 23) rfl _ _ _ (.slice xa s.length xcap) rfl rfl g n cap c s off HN.out H.out HX.out HK.out rfl (fun h0 => by have h1 := HN.out; have h2 := HK.out; exact if_neg (by omega)) ?_; intro w2 HB2 HG2)
      all_goals
        go_ret
        have HO : Onto w w2 (.slice (some ⟨g, 0, none⟩) n cap) (.slice (some ⟨g, 0, none⟩) n cap) := ⟨HG2.out, .inl rfl, fun e => by have := HLT.out _ e; omega⟩
        first
          | exact ⟨_, rfl, HB2.out, HO⟩
          | (obtain rfl : cap = off := by assumption
             exact ⟨_, rfl, HB2.out, HO⟩)
end Go.Proofs.YtgdkdihedgiegaaDoor
