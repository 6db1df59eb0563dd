/-
  From what the rows list to the tables of unicode/utf8 in the world; the witness's world; the row's last step where a call makes memory.
-/
import Derived.Test.YtfkleeigdplapaaDoorCards
import Derived.Test.YtfkleeigdplapaaDoorTie
import Derived.Test.YtfkleeigdplapaaDoorP1
import Derived.WalkKit
import Derived.ProofKit
import Derived.OpenShut
import Derived.Deep.DeepHandedRow
import Derived.Lib.LaidTab
import Derived.Lib.LaidU8
import Derived.Below
import Derived.ChangeSame
import Derived.MakeChecks
namespace Go.Proofs.YtfkleeigdplapaaDoor
open Go.RowKit Go.WideShapes Go.ChangeShapes Go.ChangeAt

section
variable {H : Type} {enc : TypeId × Value → H} {P : Program}
theorem post_of_below {f : Func} {s : ChangeSpec} {apart fresh handsOn again : Bool} {W W' : World} {args : Array Value} {v : Value} {ds gs : List (DataW H)} {before pa pv : List MemPlace}
    (hW : DataW.Whole enc P f.params.toList s.vars apart W args.toList ds gs before)
    (hres : ∀ (b : Nat) (sp : Nat → Bool) (hd : Bool), DataW.TrodAll enc P W' b sp hd f.resultTypes.toList (v.resultList f.resultTypes.size) (s.fn H (ds ++ gs)).results [])
    (hargs : ∀ sp : Nat → Bool, (∀ p ∈ before, sp p.block = true) → DataW.TrodAll enc P W' 0 sp true f.params.toList args.toList (s.fn H (ds ++ gs)).args pa)
    (hvars : ∀ sp : Nat → Bool, (∀ p ∈ before, sp p.block = true) → DataW.TrodVars enc P W' sp s.vars (s.fn H (ds ++ gs)).vars pv)
    (hps : before = pa ++ pv) (hb : Below W.heap.size W W')
    (hok : ∀ (j : Nat) (t : TypeId) (r : Value), f.resultTypes[j]? = some t → (v.resultList f.resultTypes.size)[j]? = some r → Value.okWide P W' .any 0 t r) :
    s.post enc P f apart fresh handsOn again W args v W' := by
  have hlt : ∀ p ∈ before, p.block < W.heap.size := fun p hp => hW.lt p hp
  have hold : ∀ p ∈ before, (fun b => decide (b < W.heap.size)) p.block = true := fun p hp => by simpa using hlt p hp
  refine ⟨ds, gs, before, [], pa, pv, hW, hres _ _ _, hargs _ hold, hvars _ hold, World.keptBut_mono (fun p hp => ⟨hp, ?_⟩) (hb.frame (· ∈ before)), fun _ => ?_⟩
  · rw [hps, List.mem_append] at hp
    exact Or.inr hp
  · obtain ⟨_, _, _, _, _, hz, hn⟩ := hW
    refine ⟨hok, _, _, ([] ++ pa) ++ pv, ⟨[] ++ pa, pv, trodAll_append (hargs _ (fun _ _ => rfl)) (hres _ _ _), hvars _ (fun _ _ => rfl), rfl, ?_, ?_⟩, ?_⟩
    · intro b off hp
      have hin : MemPlace.cell b off ∈ before := by rw [hps]; simpa using hp
      rw [hb.frozen (hlt _ hin)]
      exact hz b off hin
    · intro ha
      have := hn ha
      rw [hps] at this
      simpa using this
    · intro p hp _
      rw [hps]
      simpa using hp
end

theorem lays260 : Go.Proofs.Lays.n260 Tryd.prog lays197_ren := {
  mixed := lays197.mixed
  f260 := lays197.f260
  t0 := lays197.t0
  a0 := lays197.a0
  z0 := lays197.z0
  v0 := lays197.v0
  t3 := lays197.t3
  a3 := lays197.a3
  z3 := lays197.z3
  v3 := lays197.v3
  t4 := lays197.t4
  a4 := lays197.a4
  z4 := lays197.z4
  v4 := lays197.v4
  t5 := lays197.t5
  a5 := lays197.a5
  z5 := lays197.z5
  v5 := lays197.v5
  t9 := lays197.t9
  a9 := lays197.a9
  z9 := lays197.z9
  v9 := lays197.v9
  t21 := lays197.t21
  a21 := lays197.a21
  z21 := lays197.z21
  v21 := lays197.v21
  t46 := lays197.t46
  a46 := lays197.a46
  z46 := lays197.z46
  v46 := lays197.v46
  t119 := lays197.t119
  a119 := lays197.a119
  z119 := lays197.z119
  t138 := lays197.t138
  a138 := lays197.a138
  z138 := lays197.z138
  v138 := lays197.v138
  t139 := lays197.t139
  a139 := lays197.a139
  z139 := lays197.z139
  v139 := lays197.v139
  g3 := lays197.g3
  g4 := lays197.g4 }
theorem u8extra : U8Extra Tryd.prog lays197_ren := {
  n3 := by kernel_rfl
  n4 := by kernel_rfl
  y3 := by kernel_rfl
  y4 := by kernel_rfl
  c5 := by kernel_rfl
  c119 := by kernel_rfl
  c138 := by kernel_rfl }
/-- What every row of the seat lists. -/
def laidL : List (String × DataW Unit) := Rows.marcFieldsRow.laid
theorem first_datum : Rows.laid_unicode_utf8_first = Lib.firstData := by kernel_rfl
theorem accept_datum : (Rows.laid_unicode_utf8_acceptRanges : DataW Unit) = Lib.acceptData := by kernel_rfl
theorem tabs_of_laid {W : World} (h : laidMetH Tryd.prog laidL W) : Tabs W := by
  rw [Go.MakeChecks.laidMetH_plain _ _ _ (by kernel_rfl)] at h
  exact utf8Tabs_of_reads lays260 u8extra (Lib.laidMet.reads h (by rw [← first_datum]; simp [laidL, Rows.marcFieldsRow])) (Lib.laidMet.reads h (by rw [← accept_datum]; simp [laidL, Rows.marcFieldsRow]))
def firstObj (o : Obj) : Obj := match o with
  | .cells _ t fr => .cells (Lib.firstTab.map (Value.int .u8)).toArray t fr
  | o => o
def acceptObj (o : Obj) : Obj := match o with
  | .cells _ t fr => .cells ((List.range 16).flatMap (fun i => [Value.int .u8 (Lib.accLo i : Int), Value.int .u8 (Lib.accHi i : Int)])).toArray t fr
  | o => o
/-- A world for the witness: the settled one, the two tables holding what their initialisers lay. -/
noncomputable def laidWorld (os : Os) : World :=
  { World.holding Tryd.prog os ⟨#[], #[], []⟩ with heap := ((World.holding Tryd.prog os ⟨#[], #[], []⟩).heap.modify 0 firstObj).modify 1 acceptObj }
theorem own : ownKnob Tryd.prog.godebug = none := by kernel_rfl
end Go.Proofs.YtfkleeigdplapaaDoor
