/-
  PROVED HERE: the row's closed facts.
-/
import Derived.Test.YtlcladdlhllkcaaGreatDoorQWF2
namespace Go.Proofs.YtlcladdlhllkcaaGreatDoor.known
open Go Go.ChangeShapes Go.WideShapes Go.ChangeAt Go.RowKit
set_option linter.unusedVariables false
theorem facts : joinedFacts Tryz.pinned.checked.prog 3 Tryz.f3 Rows.worldKnownSpec Rows.worldKnownRow = true := by
  unfold joinedFacts
  rw [laidOut, mapsAll, inPlace, unfollowedSaid, recurses, named]
  kernel_rfl
end Go.Proofs.YtlcladdlhllkcaaGreatDoor.known
