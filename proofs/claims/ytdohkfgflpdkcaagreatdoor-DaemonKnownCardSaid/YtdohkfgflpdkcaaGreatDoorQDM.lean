/-
  PROVED HERE: the program's orders.
-/
import Derived.Test.YtdohkfgflpdkcaaGreatDoorQDS2
import Derived.Test.YtdohkfgflpdkcaaGreatDoorChecked
import Derived.Eval
namespace Go.Proofs.YtdohkfgflpdkcaaGreatDoor.known
open Go Go.Eng
set_option linter.unusedVariables false
theorem mixed : Tryz.prog.follows .mixedOrders = true := Checked.mixed Tryz.checked
end Go.Proofs.YtdohkfgflpdkcaaGreatDoor.known
