/-
  PROVED HERE: the row's closed facts that hang on the whole program.
-/
import Derived.Test.YtlcladdlhllkcaaGreatDoorQWF1
namespace Go.Proofs.YtlcladdlhllkcaaGreatDoor.known
open Go Go.ChangeShapes Go.WideShapes Go.ChangeAt Go.RowKit
set_option linter.unusedVariables false
theorem laidOut : laidOutB Tryz.pinned.checked.prog = true := by kernel_rfl
theorem mapsAll : mapsRowed Tryz.pinned.checked.prog = true := by kernel_rfl
end Go.Proofs.YtlcladdlhllkcaaGreatDoor.known
