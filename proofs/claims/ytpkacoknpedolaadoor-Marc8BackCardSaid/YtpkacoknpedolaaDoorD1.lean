/-
  MARC-8's encoding, plain; the memory of the encoder.
-/
import Derived.Test.YtpkacoknpedolaaDoorC3
namespace Go.Proofs.YtpkacoknpedolaaDoor
open Go.RowKit Go.Maps

/-- The bytes of characters. -/
def swapT (l : List (Nat × Nat)) : List (Nat × Nat) := l.map fun p => (p.2, p.1)
def upR (c : Nat) : Option Nat := look (swapT uppersT) c
def mkR (c : Nat) : Option Nat := look (swapT marksT) c
def stR (n c : Nat) : Option Nat := look (swapT (setT n)) c
/-- What was written so far: the text, the set, the bytes of the character that waits: its own first. -/
structure ES where
  out : Bs
  now : Nat
  pend : Bs
def finR (e : ES) : ES := match e.pend with
  | [] => e
  | b :: r => { e with out := e.out ++ r ++ [b], pend := [] }
def toR (n : Nat) (e : ES) : ES := if n = e.now then e else { e with out := e.out ++ [27, 40, UInt8.ofNat (signOf n)], now := n }
def findSet (c : Nat) : List Nat → Option (Nat × Nat)
  | [] => none
  | n :: l => match stR n c with
    | some b => some (n, b)
    | none => findSet c l
def putR (c : Nat) (e : ES) : Option ES := match upR c with
  | some b => some { finR e with pend := [UInt8.ofNat b] }
  | none => match findSet c [(finR e).now, 0, 1, 2] with
    | some (n, b) => some { toR n (finR e) with pend := [UInt8.ofNat b] }
    | none => none
def encStep (c : Nat) (e : ES) : Option ES := match tabC compT c with
  | some (l, m) => match putR l e with
    | some e' => some { e' with pend := e'.pend ++ [UInt8.ofNat ((mkR m).getD 0)] }
    | none => none
  | none => match mkR c with
    | some b => if e.pend = [] then none else some { e with pend := e.pend ++ [UInt8.ofNat b] }
    | none => if c < 32 ∧ c ≠ 27 then some { finR e with out := (finR e).out ++ [UInt8.ofNat c] } else putR c e
/-- Where it fails, and, but for bytes that are no UTF-8, how. -/
def encGo (s : ByteArray) : Nat → Nat → ES → Except (Nat × Option Int) ES
  | 0, _, e => .ok e
  | f + 1, pos, e => if pos < s.size then
      if (Utf8.decode s pos).1 = 65533 then .error (pos, none)
      else match encStep (Utf8.decode s pos).1 e with
        | none => .error (pos, some 15)
        | some e' => encGo s f (pos + (Utf8.decode s pos).2) e'
    else .ok e
def encEnd (e : ES) : Bs := (toR 0 (finR e)).out
/-- The tables and the tables turned round. -/
theorem swap_ok (l : List (Nat × Nat)) (h1 : ∀ b : Fin 256, ∀ c ∈ tabF l b.val, look (swapT l) c = some b.val) (h2 : ∀ p ∈ l, tabF l p.1 = some p.2 ∧ p.1 < 256) :
    (∀ b c, tabF l b = some c → look (swapT l) c = some b) ∧ ∀ b c, look (swapT l) c = some b → tabF l b = some c := by
  have hl : ∀ (l : List (Nat × Nat)) (c b : Nat), look (swapT l) c = some b → (b, c) ∈ l := by
    intro l
    induction l with
    | nil => intro c b h; cases h
    | cons p l ih =>
      intro c b h
      unfold swapT at h
      simp only [List.map_cons, look] at h
      split at h
      · rename_i e; injection h with h; subst e; subst h; exact List.mem_cons_self
      · exact List.mem_cons_of_mem _ (ih c b h)
  have ht : ∀ b c, tabF l b = some c → b < 256 := by
    have hg : ∀ (l : List (Nat × Nat)) (f : Nat → Option Nat) (b c : Nat), l.foldl upd f b = some c → (∃ p ∈ l, p.1 = b) ∨ f b = some c := by
      intro l
      induction l with
      | nil => intro f b c h; exact .inr h
      | cons p l ih =>
        intro f b c h
        rcases ih _ _ _ h with ⟨q, hq, e⟩ | h
        · exact .inl ⟨q, List.mem_cons_of_mem _ hq, e⟩
        · unfold upd at h
          split at h
          · rename_i e; exact .inl ⟨p, List.mem_cons_self, e.symm⟩
          · exact .inr h
    intro b c h
    rcases hg l _ b c h with ⟨p, hp, rfl⟩ | h
    · exact (h2 p hp).2
    · cases h
  exact ⟨fun b c h => h1 ⟨b, ht b c h⟩ c h, fun b c h => (h2 _ (hl l c b h)).1⟩
theorem swap_up : (∀ b c, tabF uppersT b = some c → upR c = some b) ∧ ∀ b c, upR c = some b → tabF uppersT b = some c := swap_ok _ (by decide +kernel) (by decide +kernel)
theorem swap_mk : (∀ b c, tabF marksT b = some c → mkR c = some b) ∧ ∀ b c, mkR c = some b → tabF marksT b = some c := swap_ok _ (by decide +kernel) (by decide +kernel)
theorem swap_st (n : Nat) : (∀ b c, tabF (setT n) b = some c → stR n c = some b) ∧ ∀ b c, stR n c = some b → tabF (setT n) b = some c := by
  match n with
  | 0 => exact swap_ok _ (by decide +kernel) (by decide +kernel)
  | 1 => exact swap_ok _ (by decide +kernel) (by decide +kernel)
  | n + 2 => exact swap_ok (setT 2) (by decide +kernel) (by decide +kernel)
end Go.Proofs.YtpkacoknpedolaaDoor
