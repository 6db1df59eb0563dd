/-
  The program's Number: a range over an iterator that keeps what is left of the number in a cell of its own.
-/
import Derived.RangeFuncNested
import Derived.RangeFuncBound
import Derived.RangeFuncCalls
import Derived.RangeFuncLeaves
import Derived.Shelf.Abstract
import Derived.Shelf.RegionOpen
import Derived.OwnWalkIn
import Derived.TacticsInMore
import Derived.LoopNIn
import Derived.LoopIn
import Derived.Test.YtgdkdihedgiegaaDoorC1
namespace Go.Proofs.YtgdkdihedgiegaaDoor
open Go.RowKit Go.Shelf
attribute [local go_sem] Oper.semAt_some

/-- What a caller's invariant abides: a turn of a block from B on that holds no cells. -/
def Firm (B : Nat) (I : Bs → Nat → World → Prop) : Prop :=
  ∀ d m X Y row, I d m X → X.grownBy Y row → (∀ r, row = some r → B ≤ r ∧ ∃ o : Obj, X.heap[r]? = some o ∧ o.isCells = false) → I d m Y
theorem Firm.put {B : Nat} {I : Bs → Nat → World → Prop} (h : Firm B I) {d : Bs} {m : Nat} {X : World} (hi : I d m X) (l : Nat) (hl : B ≤ l) (o o' : Obj) (ho : X.heap[l]? = some o) (hc : o.isCells = false) : I d m (X.putObj l o') :=
  h d m X _ (some l) hi (grownBy_putObj' X l o') (fun r e => by cases e; exact ⟨hl, o, ho, hc⟩)
theorem Firm.alloc {B : Nat} {I : Bs → Nat → World → Prop} (h : Firm B I) {d : Bs} {m : Nat} {X : World} (hi : I d m X) (o : Obj) : I d m (X.alloc o) :=
  h d m X _ none hi (World.grownBy_alloc X o none) (fun r e => by cases e)
/-- How a round ends: it goes on. -/
def goesOn (I : Bs → Nat → World → Prop) (d : Bs) (m : Nat) (W : World) : Exit → Act → World → Prop
  | .normal, _, W' => KeepsOthers W W' ∧ I d m W'
  | _, _, _ => False
section
variable {F : Fence} {n : Nat} {P : Program}
/-- What the iterator promises: it yields a number's groups, whoever keeps J. -/
def Groups (F : Fence) (n : Nat) (P : Program) (gf : Nat) (lb : Array Value) (Bn : Nat) (N : Nat) : Prop :=
  ∀ (l : Nat) (J : Bs → Nat → World → Prop) (W : World), (∀ d m X, J d m X → X.cell? ⟨Bn, 0, none⟩ = some (.int .u64 m) ∧ X.frozen? ⟨Bn, 0, none⟩ = false) →
    (∀ d m (m' : Nat) X, J d m X → J d m' (X.setCell ⟨Bn, 0, none⟩ (.int .u64 m'))) →
    (∀ d m (g : Nat) X, g < 128 → J d m X → d.length ≤ 9 → YieldAt F (n - 1) P l #[.int .u8 g, .bool (decide (0 < m))] X fun e X' => e = .returned (.bool true) ∧ J (d ++ [UInt8.ofNat (if 0 < m then g + 128 else g)]) m X') →
    J [] N W → CallsIn F n P gf (#[.func (.yield l) #[] #[]] ++ lb) W fun e W' => (∃ v, e = .returned v) ∧ J (numR N) 0 W'
theorem wpIn_groups {g : Operand} {ps : Array Tmp} {assign body : Code} {Q : Exit → Act → World → Prop} {a : Act} {w : World} (hro : F.round = none) (h1 : 1 ≤ n) {gf : Nat} {lb : Array Value} {Bn N : Nat}
    (hg : a.eval g = .func (.func gf) #[] lb) (hFg : F.fn gf) (eg : ∀ args w, (callFunc gf args).run P w = .ok (.enter gf args) w) (hseq : Groups F (n - 1) P gf lb Bn N) (hps : ps.size = 2)
    (I : Bs → Nat → World → Prop) (hI : Firm w.heap.size I) (hcell : ∀ d m X, I d m X → X.cell? ⟨Bn, 0, none⟩ = some (.int .u64 m) ∧ X.frozen? ⟨Bn, 0, none⟩ = false)
    (hset : ∀ d m (m' : Nat) X, I d m X → I d m' (X.setCell ⟨Bn, 0, none⟩ (.int .u64 m'))) (hBn : Bn < w.heap.size) (h0 : I [] N w) (a₁ : Nat → Bool → Act)
    (hassign : ∀ (l : Nat) (x : Nat) (t : Bool) (W : World) (K : Act → World → Prop), K (a₁ x t) W →
      assign.wpIn (F.inRound l) (n - 1 - 1) P (Exit.then K (fun _ _ _ => False)) { tmps := (ps.zip #[.int .u8 (x : Int), .bool t]).foldl (fun t (p, v) => t.setIfInBounds p v) a.tmps, defers := [] } W)
    (hbody : ∀ (l : Nat) (d : Bs) (m x : Nat) (W : World), x < 128 → I d m W → d.length ≤ 9 → body.wpIn (F.inRound l) (n - 1 - 1) P (goesOn I (d ++ [UInt8.ofNat (if 0 < m then x + 128 else x)]) m W) (a₁ x (decide (0 < m))) W)
    (hdone : ∀ (D : Nat) (W : World), w.heap.size ≤ D → I (numR N) 0 W → W.heap[D]? = some (.deferred (some [])) → Q .normal { a with defers := { target := .collected D, args := #[] } :: a.defers } W) :
    (Code.rangeFunc g ps assign body).wpIn F n P Q a w := by
  refine wpIn_rangeFunc ?_
  intro fn hfn
  rw [hro]
  obtain ⟨rec, hrec⟩ : ∃ rec : LoopState → Loop, rec = fun st => { state := st, pending := none, fn, tmps := a.tmps, params := ps, assign, body, defers := w.heap.size } := ⟨_, rfl⟩
  obtain ⟨W1, hW1⟩ : ∃ W1, (w.alloc (.deferred (some []))).alloc (.loop (rec .ready)) = W1 := ⟨_, rfl⟩
  have hL1 : W1.heap[w.heap.size + 1]? = some (.loop (rec .ready)) := by
    rw [← hW1]; have := World.alloc_heap_new (w.alloc (.deferred (some []))) (.loop (rec .ready)); rwa [World.size_alloc] at this
  have hK1 : W1.heap[w.heap.size]? = some (.deferred (some [])) := by
    rw [← hW1]; exact (Below.heap_alloc _ _ _ (by simp)).trans (World.alloc_heap_new w _)
  have hI1 : I [] N W1 := by rw [← hW1]; exact hI.alloc (hI.alloc h0 _) _
  refine ⟨w.heap.size + 1, [{ target := .collected w.heap.size, args := #[] }], W1, { target := .fn (.func gf) lb, args := #[.func (.yield (w.heap.size + 1)) #[] #[]] }, W1, gf,
    #[.func (.yield (w.heap.size + 1)) #[] #[]] ++ lb, W1, ?_, ?_, ?_, ?_, fun _ => h1, ?_⟩
  · rw [← hW1, hrec]; exact run_enterLoop_outer _ _ _ _ _
  · simp only [resolve, hg]
    simp [go_sem]
  · intro f' hf'; simp [Target.leads] at hf'; subst hf'; exact hFg
  · simp [invoke, go_sem, eg]
  · refine (hseq (w.heap.size + 1) (fun d m W => I d m W ∧ W.heap[w.heap.size + 1]? = some (.loop (rec .ready)) ∧ W.heap[w.heap.size]? = some (.deferred (some []))) W1
      (fun d m X hx => hcell d m X hx.1) (fun d m m' X hx => ⟨hset d m m' X hx.1, (Below.heap_setCell _ _ _ _ (by simp; omega)).trans hx.2.1, (Below.heap_setCell _ _ _ _ (by simp; omega)).trans hx.2.2⟩) ?_ ⟨hI1, hL1, hK1⟩).mono ?_
    · rintro d m x W hx ⟨hi, hl, hk⟩ hlen
      have hlt : w.heap.size + 1 < W.heap.size := (Array.getElem?_eq_some_iff.1 hl).1
      have hy := run_yield (P := P) (args := #[.int .u8 (x : Int), .bool (decide (0 < m))]) hl (by rw [hrec]; simp [hps])
      rw [hrec] at hy
      refine ⟨fn, _, assign, body, hy, roundIn_of_wpIn hfn (hassign _ x _ W _ ⟨_, run_beginRound hl (by rw [hrec]), ?_⟩)⟩
      have hl2 : (W.putObj (w.heap.size + 1) (.loop { rec .ready with state := .busy })).heap[w.heap.size + 1]? = some (.loop { rec .ready with state := .busy }) := World.putObj_heap_same hlt
      have hk2 : (W.putObj (w.heap.size + 1) (.loop { rec .ready with state := .busy })).heap[w.heap.size]? = some (.deferred (some [])) := (World.putObj_heap_other (by omega)).trans hk
      refine wpIn_mono (hbody _ d m x _ hx (hI.put hi _ (by omega) _ _ hl rfl) hlen) ?_
      rintro e a3 W3 hp
      cases e with
      | normal =>
        obtain ⟨hk3, hi3⟩ := hp
        have hl3 := hk3.same _ _ hl2 rfl
        have hr := run_endRound (P := P) none hl3
        refine ⟨_, _, hr, rfl, hI.put hi3 _ (by omega) _ _ hl3 rfl, ?_, (World.putObj_heap_other (by omega)).trans (hk3.same _ _ hk2 rfl)⟩
        rw [World.putObj_heap_same (Array.getElem?_eq_some_iff.1 hl3).1, hrec]
        rfl
      | ret => exact hp.elim
      | exit id => exact hp.elim
      | goto t => exact hp.elim
      | panic ch => exact hp.elim
      | outgrown => exact hp.elim
    · rintro e W2 ⟨⟨v, rfl⟩, hi, hl, hk⟩
      exact ⟨none, _, by have := run_endLoop (P := P) hl (by rw [hrec]; simp); rw [hrec] at this; exact this, hdone _ _ (Nat.le_refl _) (hI.put hi _ (by omega) _ _ hl rfl) ((World.putObj_heap_other (by omega)).trans hk)⟩
end
end Go.Proofs.YtgdkdihedgiegaaDoor
