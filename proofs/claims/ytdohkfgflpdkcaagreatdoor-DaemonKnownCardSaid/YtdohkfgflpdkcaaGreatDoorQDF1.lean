/-
  PROVED HERE: the row's closed facts that hang on what the call can come to.
-/
import Derived.Test.YtdohkfgflpdkcaaGreatDoorQDF0
import GoSem.ClaimGoes
namespace Go.Proofs.YtdohkfgflpdkcaaGreatDoor.known
open Go Go.ChangeShapes Go.WideShapes Go.ChangeAt Go.RowKit
set_option linter.unusedVariables false
theorem inPlace : (Rows.daemonKnownRow.inPlace == Tryz.pinned.checked.prog.inPlace 6) = true := by
  unfold Program.inPlace
  rw [clos]
  kernel_rfl
theorem unfollowed : Tryz.pinned.checked.prog.unfollowed 6 = true := by
  unfold Program.unfollowed
  rw [clos]
  kernel_rfl
theorem unfollowedSaid : (Rows.daemonKnownRow.unfollowed == Tryz.pinned.checked.prog.unfollowed 6) = true := by rw [unfollowed]; kernel_rfl
theorem recurses : (Rows.daemonKnownRow.recurses == Tryz.pinned.checked.prog.recurses 6) = true := by
  unfold Program.recurses
  rw [unfollowed]
  kernel_rfl
theorem named : (Rows.daemonKnownRow.named == Tryz.pinned.checked.prog.varsNamed 6) = true := by
  unfold Program.varsNamed
  rw [clos]
  kernel_rfl
theorem goesNot : Tryz.pinned.checked.prog.goes 6 = false := by
  unfold Program.goes
  rw [clos, unfollowed]
  kernel_rfl
end Go.Proofs.YtdohkfgflpdkcaaGreatDoor.known
