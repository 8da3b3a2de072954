/-
  PROVED HERE: the row's closed facts that hang on what the call can come to.
-/
import Derived.Test.YtlcladdlhllkcaaGreatDoorQWF0
import GoSem.ClaimGoes
namespace Go.Proofs.YtlcladdlhllkcaaGreatDoor.known
open Go Go.ChangeShapes Go.WideShapes Go.ChangeAt Go.RowKit
set_option linter.unusedVariables false
theorem inPlace : (Rows.worldKnownRow.inPlace == Tryz.pinned.checked.prog.inPlace 3) = true := by
  unfold Program.inPlace
  rw [clos]
  kernel_rfl
theorem unfollowed : Tryz.pinned.checked.prog.unfollowed 3 = true := by
  unfold Program.unfollowed
  rw [clos]
  kernel_rfl
theorem unfollowedSaid : (Rows.worldKnownRow.unfollowed == Tryz.pinned.checked.prog.unfollowed 3) = true := by rw [unfollowed]; kernel_rfl
theorem recurses : (Rows.worldKnownRow.recurses == Tryz.pinned.checked.prog.recurses 3) = true := by
  unfold Program.recurses
  rw [unfollowed]
  kernel_rfl
theorem named : (Rows.worldKnownRow.named == Tryz.pinned.checked.prog.varsNamed 3) = true := by
  unfold Program.varsNamed
  rw [clos]
  kernel_rfl
theorem goesNot : Tryz.pinned.checked.prog.goes 3 = false := by
  unfold Program.goes
  rw [clos, unfollowed]
  kernel_rfl
end Go.Proofs.YtlcladdlhllkcaaGreatDoor.known
