/-
  PROVED HERE: pieces of the reckoned call.
-/
import Derived.Test.YtdohkfgflpdkcaaGreatDoorQDM
namespace Go.Proofs.YtdohkfgflpdkcaaGreatDoor.known
open Go Go.Eng
set_option linter.unusedVariables false
theorem p21 : Leads Tryz.prog 6 none (fs (sn (sn (sn (sn (sn (sn (sn (sn (sn (sn (sn (sn (sn (sn (sn (sn (sn (sn c))))))))))))))))))) .normal A21 H21 A22 H22 :=
  Leads.of (evalF_ok mixed 200) mixed [2, 270, 271, 275, 276, 277, 278, 279, 280, 281, 282, 283, 287, 288, 289, 290, 291, 302, 303, 304, 305, 306, 307, 309, 310, 314, 330, 605] (by kernel_rfl)
end Go.Proofs.YtdohkfgflpdkcaaGreatDoor.known
