/-
  From what the rows list to the tables of the library in the world; the witness's world; the row's last step where a call makes memory.
-/
import Derived.Test.YtpkacoknpedolaaDoorCards
import Derived.Test.YtpkacoknpedolaaDoorTie
import Derived.Test.YtpkacoknpedolaaDoorB2
import Derived.WalkKit
import Derived.ProofKit
import Derived.OpenShut
import Derived.Deep.DeepHandedRow
import Derived.Lib.LaidTab
import Derived.Lib.LaidU8
import Derived.Lib.LaidCaseMet
import Derived.PinnedBridge
import Derived.Below
import Derived.ChangeSame
import Derived.MakeChecks
namespace Go.Proofs.YtpkacoknpedolaaDoor
open Go.RowKit Go.WideShapes Go.ChangeShapes Go.ChangeAt

section
variable {H : Type} {enc : TypeId × Value → H} {P : Program}
theorem post_of_below {f : Func} {s : ChangeSpec} {apart fresh handsOn again : Bool} {W W' : World} {args : Array Value} {v : Value} {ds gs : List (DataW H)} {before pa pv : List MemPlace}
    (hW : DataW.Whole enc P f.params.toList s.vars apart W args.toList ds gs before)
    (hres : ∀ (b : Nat) (sp : Nat → Bool) (hd : Bool), DataW.TrodAll enc P W' b sp hd f.resultTypes.toList (v.resultList f.resultTypes.size) (s.fn H (ds ++ gs)).results [])
    (hargs : ∀ sp : Nat → Bool, (∀ p ∈ before, sp p.block = true) → DataW.TrodAll enc P W' 0 sp true f.params.toList args.toList (s.fn H (ds ++ gs)).args pa)
    (hvars : ∀ sp : Nat → Bool, (∀ p ∈ before, sp p.block = true) → DataW.TrodVars enc P W' sp s.vars (s.fn H (ds ++ gs)).vars pv)
    (hps : before = pa ++ pv) (hb : Below W.heap.size W W')
    (hok : ∀ (j : Nat) (t : TypeId) (r : Value), f.resultTypes[j]? = some t → (v.resultList f.resultTypes.size)[j]? = some r → Value.okWide P W' .any 0 t r) :
    s.post enc P f apart fresh handsOn again W args v W' := by
  have hlt : ∀ p ∈ before, p.block < W.heap.size := fun p hp => hW.lt p hp
  have hold : ∀ p ∈ before, (fun b => decide (b < W.heap.size)) p.block = true := fun p hp => by simpa using hlt p hp
  refine ⟨ds, gs, before, [], pa, pv, hW, hres _ _ _, hargs _ hold, hvars _ hold, World.keptBut_mono (fun p hp => ⟨hp, ?_⟩) (hb.frame (· ∈ before)), fun _ => ?_⟩
  · rw [hps, List.mem_append] at hp
    exact Or.inr hp
  · obtain ⟨_, _, _, _, _, hz, hn⟩ := hW
    refine ⟨hok, _, _, ([] ++ pa) ++ pv, ⟨[] ++ pa, pv, trodAll_append (hargs _ (fun _ _ => rfl)) (hres _ _ _), hvars _ (fun _ _ => rfl), rfl, ?_, ?_⟩, ?_⟩
    · intro b off hp
      have hin : MemPlace.cell b off ∈ before := by rw [hps]; simpa using hp
      rw [hb.frozen (hlt _ hin)]
      exact hz b off hin
    · intro ha
      have := hn ha
      rw [hps] at this
      simpa using this
    · intro p hp _
      rw [hps]
      simpa using hp
end


theorem u8extra : U8Extra Tryd.prog lays158_ren := {
  n3 := by kernel_rfl
  n4 := by kernel_rfl
  y3 := by kernel_rfl
  y4 := by kernel_rfl
  c5 := by kernel_rfl
  c119 := by kernel_rfl
  c138 := by kernel_rfl }
theorem caseExtra : CaseExtra Tryd.prog lays158_ren := ⟨by kernel_rfl, by kernel_rfl, by kernel_rfl, by kernel_rfl, by kernel_rfl, by kernel_rfl⟩
theorem lays260 : Go.Proofs.Lays.n260 Tryd.prog lays158_ren := { lays158 with }
theorem lays274 : Go.Proofs.Lays.n274 Tryd.prog lays158_ren := { lays158 with }
/-- What every row of the seat lists. -/
def laidL : List (String × DataW Unit) := Rows.marc8PlainRow.laid
theorem first_datum : Rows.laid_unicode_utf8_first = Lib.firstData := Pinned.utf8First_eq
theorem case_datum : Rows.laid_unicode_CaseRanges = Lib.caseData := Pinned.caseRanges_eq
theorem accept_datum : (Rows.laid_unicode_utf8_acceptRanges : DataW Unit) = Lib.acceptData := by kernel_rfl
theorem tabs_of_laid {W : World} (h : laidMetH Tryd.prog laidL W) : Tabs W := by
  rw [Go.MakeChecks.laidMetH_plain _ _ _ (by kernel_rfl)] at h
  exact ⟨utf8Tabs_of_reads lays260 u8extra (Lib.laidMet.reads h (by rw [← first_datum]; simp [laidL, Rows.marc8PlainRow])) (Lib.laidMet.reads h (by rw [← accept_datum]; simp [laidL, Rows.marc8PlainRow])),
    caseVar_of_reads lays274 lays158.t206 caseExtra (Lib.laidMet.reads h (by rw [← case_datum]; simp [laidL, Rows.marc8PlainRow]))⟩
/-- A world for the witness: the settled one with one block more, the three tables holding what their initialisers lay. -/
noncomputable def laidWorld (os : Os) : World :=
  let N := (World.settled Tryd.prog os).heap.size
  let w0 := World.holding Tryd.prog os ⟨#[.cells Lib.caseCells5 (lays158_ren.t 208)], #[], []⟩
  let put (h : Array Obj) (g : Nat) (cs : Array Value) : Array Obj := h.modify g fun
    | .cells _ t frozen => .cells cs t frozen
    | o => o
  let h1 := put w0.heap 0 (Lib.firstTab.map fun z => Value.int .u8 z).toArray
  let h2 := put h1 1 ((List.range 16).flatMap fun i => [Value.int .u8 (Lib.accLo i), Value.int .u8 (Lib.accHi i)]).toArray
  let h3 := put h2 2 #[.slice (some ⟨N, 0, none⟩) 336 336]
  { w0 with heap := h3 }
theorem laid_swap {P : Program} {w : World} {x y z : String × DataW Unit} (h : laidMet P [x, y, z] w) : laidMet P [x, z, y] w := by
  obtain ⟨ps, h1, h2, h3⟩ := h
  obtain ⟨nx, dx⟩ := x
  obtain ⟨ny, dy⟩ := y
  obtain ⟨nz, dz⟩ := z
  obtain ⟨gx, tx, cx, fx, px, qx, x1, x2, x3, x4, ⟨gy, ty, cy, fy, py, qy, y1, y2, y3, y4, ⟨gz, tz, cz, fz, pz, qz, z1, z2, z3, z4, hq, rfl⟩, rfl⟩, rfl⟩ := h1
  have hq' : qz = [] := hq
  subst hq'
  have hp : List.Perm (MemPlace.row ⟨gx, 0, none⟩ cx.size ++ px ++ (MemPlace.row ⟨gy, 0, none⟩ cy.size ++ py ++ (MemPlace.row ⟨gz, 0, none⟩ cz.size ++ pz ++ []))) (MemPlace.row ⟨gx, 0, none⟩ cx.size ++ px ++ (MemPlace.row ⟨gz, 0, none⟩ cz.size ++ pz ++ (MemPlace.row ⟨gy, 0, none⟩ cy.size ++ py ++ []))) := by
    refine List.Perm.append_left _ ?_
    simp only [List.append_nil]
    exact List.perm_append_comm
  exact ⟨_, ⟨gx, tx, cx, fx, px, _, x1, x2, x3, x4, ⟨gz, tz, cz, fz, pz, _, z1, z2, z3, z4, ⟨gy, ty, cy, fy, py, [], y1, y2, y3, y4, rfl, rfl⟩, rfl⟩, rfl⟩, hp.nodup_iff.1 h2, fun b off hb => h3 b off (hp.mem_iff.2 hb)⟩
set_option maxRecDepth 100000 in
theorem laid_met_at (os : Os) (args : Array Value) : laidMet Tryd.prog laidL ((laidWorld os).forCall (fun _ _ => 0) ⟨#[], args, []⟩).memory := by
  have h := laidMet_with_case (ρ := lays158_ren) lays274 lays158.t206 caseExtra (w := ((laidWorld os).forCall (fun _ _ => 0) ⟨#[], args, []⟩).memory)
    (l := [("unicode/utf8.acceptRanges", Lib.acceptData), ("unicode/utf8.first", Lib.firstData)])
    10 (by kernel_rfl) (by kernel_rfl) (by kernel_rfl) ((World.settled Tryd.prog default).heap.size) (lays158_ren.t 208) (of_decide_eq_true (by kernel_rfl)) (by kernel_rfl) (by kernel_rfl) (by kernel_rfl)
  have h2 := laid_swap h
  rw [← first_datum, ← case_datum, ← accept_datum] at h2
  exact h2
theorem own : ownKnob Tryd.prog.godebug = none := by kernel_rfl
end Go.Proofs.YtpkacoknpedolaaDoor
