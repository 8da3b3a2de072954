/-
  PROVED HERE: the card's closed facts.
-/
import Derived.Test.YtdohkfgflpdkcaaGreatDoorQDF1
import Derived.Test.YtdohkfgflpdkcaaGreatDoorCards
namespace Go.Proofs.YtdohkfgflpdkcaaGreatDoor.known
open Go Go.ChangeShapes Go.WideShapes Go.ChangeAt Go.RowKit
set_option linter.unusedVariables false
theorem byText : Rows.daemonKnownRow.wfByText (OpenSpec.ofChange Rows.daemonKnownSpec) = true := by kernel_rfl
theorem mainIs : Tryz.pinned.checked.prog.mainIs = some (true, ("235fb7f0fe01a77364270aea6f194618739c8fa4bf229f96156af916a0c165df" : String).toList) := by kernel_rfl
theorem looks : true = Tryz.pinned.checked.prog.looks [] := by kernel_rfl
theorem theFunc : Tryz.pinned.checked.prog.funcNamed "ephemeris/ephemerislaw29.DaemonKnown" = some 6 := by kernel_rfl
theorem goes_of (P : Program) (c : OpenClaim) (hs : c.start = .entering) (h : P.goesFrom c.func = false) : false = c.goesBy P := by
  unfold OpenClaim.goesBy Program.goesAt
  rw [h, hs]
  rfl
theorem goesFrom_of (P : Program) (n : String) (f : FuncId) (hf : P.funcNamed n = some f) (h : P.goes f = false) : P.goesFrom n = false := by
  unfold Program.goesFrom
  rw [hf]
  exact h
theorem goes : false = Rows.daemonKnownRow.goesBy Tryz.pinned.checked.prog := goes_of _ _ rfl (goesFrom_of _ _ 6 theFunc goesNot)
end Go.Proofs.YtdohkfgflpdkcaaGreatDoor.known
