/-
  The closed facts of the row of CatalogueTitles, each by itself.
-/
import Derived.Test.YtjcimanddakkaaaGreatDoorRows
import Derived.JoinedCond
import Derived.SevenTiedAt
import Derived.KernelRfl
namespace Go.Proofs.YtjcimanddakkaaaGreatDoor.catalogueTitles
open Go Go.ChangeShapes
set_option maxRecDepth 100000
theorem fact_lo:(laidOutB Tryz.pinned.checked.prog)=true:=by kernel_rfl
theorem fact_mr:(mapsRowed Tryz.pinned.checked.prog)=true:=by kernel_rfl
theorem fact_ip:((Rows.catalogueTitlesRow.inPlace==Tryz.pinned.checked.prog.inPlace 4))=true:=by kernel_rfl
theorem fact_uf:((Rows.catalogueTitlesRow.unfollowed==Tryz.pinned.checked.prog.unfollowed 4))=true:=by kernel_rfl
theorem fact_rc:((Rows.catalogueTitlesRow.recurses==Tryz.pinned.checked.prog.recurses 4))=true:=by kernel_rfl
theorem fact_nm:((Rows.catalogueTitlesRow.named==Tryz.pinned.checked.prog.varsNamed 4))=true:=by kernel_rfl
theorem closed:joinedFacts Tryz.pinned.checked.prog 4 Tryz.f4 (OpenSpec.ofChange Rows.catalogueTitlesSpec).bare Rows.catalogueTitlesRow=true:=by
 unfold joinedFacts
 rw [fact_lo,fact_mr,fact_ip,fact_uf,fact_rc,fact_nm]
 kernel_rfl
theorem main_is:Tryz.pinned.checked.prog.mainIs=some (true,"79c05928538cabbade29b1fc2ee3e99d45e7e3cb323b6f1666de74e5679fe5b3".toList):=by kernel_rfl
theorem func_named:Tryz.pinned.checked.prog.funcNamed Rows.catalogueTitlesRow.func=some 4:=by kernel_rfl
theorem goes_in:((Tryz.pinned.checked.prog.closure 4).any fun g=>(Tryz.pinned.checked.prog.funcs[g]?).any Func.goes)=false:=by kernel_rfl
theorem unf:Tryz.pinned.checked.prog.unfollowed 4=Rows.catalogueTitlesRow.unfollowed:=(beq_iff_eq.1 fact_uf).symm
theorem goes_any:(Rows.catalogueTitlesRow.unfollowed&&Tryz.pinned.checked.prog.funcs.any Func.goes)=false:=by kernel_rfl
theorem goes:false=Rows.catalogueTitlesRow.goesBy Tryz.pinned.checked.prog:=by
 unfold OpenClaim.goesBy Program.goesAt Program.goesFrom
 rw [func_named,show Rows.catalogueTitlesRow.start= .entering from rfl]
 simp only [Option.any_some,Bool.or_false]
 unfold Program.goes
 rw [goes_in,unf,goes_any]
 rfl
end Go.Proofs.YtjcimanddakkaaaGreatDoor.catalogueTitles
