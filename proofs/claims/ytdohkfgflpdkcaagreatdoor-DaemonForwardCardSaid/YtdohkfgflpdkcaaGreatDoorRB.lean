/-
  PROVED HERE: a part of the proof of DaemonForward (texts RF1 of the prover, joined). No condition of its own.
-/
import Derived.Test.YtdohkfgflpdkcaaGreatDoorRA
import GoSem.ClaimGoes
set_option linter.unusedVariables false
set_option linter.unusedSimpArgs false
namespace Go.Proofs.YtdohkfgflpdkcaaGreatDoor.forward
open Go Go.ChangeShapes Go.WideShapes Go.ChangeAt Go.RowKit
theorem inPlace:(Rows.daemonForwardRow.inPlace == Tryz.pinned.checked.prog.inPlace 4)=true:=by
 unfold Program.inPlace
 rw [clos]
 kernel_rfl
theorem unfollowed:Tryz.pinned.checked.prog.unfollowed 4=true:=by
 unfold Program.unfollowed
 rw [clos]
 kernel_rfl
theorem unfollowedSaid:(Rows.daemonForwardRow.unfollowed == Tryz.pinned.checked.prog.unfollowed 4)=true:=by rw [unfollowed]; kernel_rfl
theorem recurses:(Rows.daemonForwardRow.recurses == Tryz.pinned.checked.prog.recurses 4)=true:=by
 unfold Program.recurses
 rw [unfollowed]
 kernel_rfl
theorem named:(Rows.daemonForwardRow.named == Tryz.pinned.checked.prog.varsNamed 4)=true:=by
 unfold Program.varsNamed
 rw [clos]
 kernel_rfl
theorem goesNot:Tryz.pinned.checked.prog.goes 4=false:=by
 unfold Program.goes
 rw [clos,unfollowed]
 kernel_rfl
end Go.Proofs.YtdohkfgflpdkcaaGreatDoor.forward
