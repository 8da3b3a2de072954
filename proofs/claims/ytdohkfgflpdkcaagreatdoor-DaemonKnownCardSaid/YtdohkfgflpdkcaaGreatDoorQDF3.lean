/-
  PROVED HERE: the row's closed facts.
-/
import Derived.Test.YtdohkfgflpdkcaaGreatDoorQDF2
namespace Go.Proofs.YtdohkfgflpdkcaaGreatDoor.known
open Go Go.ChangeShapes Go.WideShapes Go.ChangeAt Go.RowKit
set_option linter.unusedVariables false
theorem facts : joinedFacts Tryz.pinned.checked.prog 6 Tryz.f6 Rows.daemonKnownSpec Rows.daemonKnownRow = true := by
  unfold joinedFacts
  rw [laidOut, mapsAll, inPlace, unfollowedSaid, recurses, named]
  kernel_rfl
end Go.Proofs.YtdohkfgflpdkcaaGreatDoor.known
