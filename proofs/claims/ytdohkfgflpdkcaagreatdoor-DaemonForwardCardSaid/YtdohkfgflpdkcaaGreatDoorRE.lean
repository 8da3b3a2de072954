/-
  PROVED HERE: a part of the proof of DaemonForward (texts RF4 of the prover, joined). No condition of its own.
-/
import Derived.Test.YtdohkfgflpdkcaaGreatDoorRB
import Derived.Test.YtdohkfgflpdkcaaGreatDoorCards
set_option linter.unusedVariables false
set_option linter.unusedSimpArgs false
namespace Go.Proofs.YtdohkfgflpdkcaaGreatDoor.forward
open Go Go.ChangeShapes Go.WideShapes Go.ChangeAt Go.RowKit
theorem byText:Rows.daemonForwardRow.wfByText (OpenSpec.ofChange Rows.daemonForwardSpec)=true:=by kernel_rfl
theorem mainIs:Tryz.pinned.checked.prog.mainIs=some (true,("235fb7f0fe01a77364270aea6f194618739c8fa4bf229f96156af916a0c165df":String).toList):=by kernel_rfl
theorem looks:true=Tryz.pinned.checked.prog.looks []:=by kernel_rfl
theorem theFunc:Tryz.pinned.checked.prog.funcNamed "ephemeris/ephemerislaw29.DaemonForward"=some 4:=by kernel_rfl
theorem goes_of (P:Program) (c:OpenClaim) (hs:c.start= .entering) (h:P.goesFrom c.func=false):false=c.goesBy P:=by
 unfold OpenClaim.goesBy Program.goesAt
 rw [h,hs]
 rfl
theorem goesFrom_of (P:Program) (n:String) (f:FuncId) (hf:P.funcNamed n=some f) (h:P.goes f=false):P.goesFrom n=false:=by
 unfold Program.goesFrom
 rw [hf]
 exact h
theorem goes:false=Rows.daemonForwardRow.goesBy Tryz.pinned.checked.prog:=goes_of _ _ rfl (goesFrom_of _ _ 4 theFunc goesNot)
end Go.Proofs.YtdohkfgflpdkcaaGreatDoor.forward
