/-
  PROVED HERE: a part of the proof of DaemonForward (texts RF3 of the prover, joined). No condition of its own.
-/
import Derived.Test.YtdohkfgflpdkcaaGreatDoorRC
set_option linter.unusedVariables false
set_option linter.unusedSimpArgs false
namespace Go.Proofs.YtdohkfgflpdkcaaGreatDoor.forward
open Go Go.ChangeShapes Go.WideShapes Go.ChangeAt Go.RowKit
theorem facts:joinedFacts Tryz.pinned.checked.prog 4 Tryz.f4 Rows.daemonForwardSpec Rows.daemonForwardRow=true:=by
 unfold joinedFacts
 rw [laidOut,mapsAll,inPlace,unfollowedSaid,recurses,named]
 kernel_rfl
end Go.Proofs.YtdohkfgflpdkcaaGreatDoor.forward
