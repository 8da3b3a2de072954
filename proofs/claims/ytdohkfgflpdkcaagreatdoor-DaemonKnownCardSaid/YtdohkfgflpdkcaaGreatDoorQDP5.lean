/-
  PROVED HERE: pieces of the reckoned call.
-/
import Derived.Test.YtdohkfgflpdkcaaGreatDoorQDM
namespace Go.Proofs.YtdohkfgflpdkcaaGreatDoor.known
open Go Go.Eng
set_option linter.unusedVariables false
theorem p25 : Leads Tryz.prog 6 none (fs (sn (sn (sn (sn (sn (sn (sn (sn (sn (sn (sn (sn (sn (sn (sn (sn (sn (sn (sn (sn (sn (sn c))))))))))))))))))))))) .normal A25 H25 A26 H26 :=
  Leads.of (evalF_ok mixed 200) mixed [2, 270, 271, 275, 276, 277, 278, 279, 280, 281, 282, 283, 287, 288, 289, 290, 291, 302, 303, 304, 305, 306, 307, 309, 310, 314, 330, 605, 993, 1247] (by kernel_rfl)
end Go.Proofs.YtdohkfgflpdkcaaGreatDoor.known
