/-
  PROVED HERE: the program's orders.
-/
import Derived.Test.YtlcladdlhllkcaaGreatDoorQWS3
import Derived.Test.YtlcladdlhllkcaaGreatDoorChecked
import Derived.Eval
namespace Go.Proofs.YtlcladdlhllkcaaGreatDoor.known
open Go Go.Eng
set_option linter.unusedVariables false
theorem mixed : Tryz.prog.follows .mixedOrders = true := Checked.mixed Tryz.checked
end Go.Proofs.YtlcladdlhllkcaaGreatDoor.known
