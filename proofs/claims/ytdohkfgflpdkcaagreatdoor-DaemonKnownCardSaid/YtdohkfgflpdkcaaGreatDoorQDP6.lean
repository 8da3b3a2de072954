/-
  PROVED HERE: pieces of the reckoned call.
-/
import Derived.Test.YtdohkfgflpdkcaaGreatDoorQDM
namespace Go.Proofs.YtdohkfgflpdkcaaGreatDoor.known
open Go Go.Eng
set_option linter.unusedVariables false
theorem p26 : Leads Tryz.prog 6 none (fs (sn (sn (sn (sn (sn (sn (sn (sn (sn (sn (sn (sn (sn (sn (sn (sn (sn (sn (sn (sn (sn (sn (sn c)))))))))))))))))))))))) .normal A26 H26 A27 H27 :=
  Leads.of (evalF_ok mixed 200) mixed [2, 270, 271, 275, 276, 277, 278, 279, 280, 281, 282, 283, 287, 288, 289, 290, 291, 302, 303, 304, 305, 306, 307, 309, 310, 314, 330, 605, 993, 1247, 1670] (by kernel_rfl)
theorem p27 : Leads Tryz.prog 6 none (fs (sn (sn (sn (sn (sn (sn (sn (sn (sn (sn (sn (sn (sn (sn (sn (sn (sn (sn (sn (sn (sn (sn (sn (sn c))))))))))))))))))))))))) .normal A27 H27 A28 H28 :=
  Leads.of (evalF_ok mixed 200) mixed [2, 270, 271, 275, 276, 277, 278, 279, 280, 281, 282, 283, 287, 288, 289, 290, 291, 302, 303, 304, 305, 306, 307, 309, 310, 314, 330, 605, 993, 1247, 1670] (by kernel_rfl)
theorem p28 : Leads Tryz.prog 6 none (fs (sn (sn (sn (sn (sn (sn (sn (sn (sn (sn (sn (sn (sn (sn (sn (sn (sn (sn (sn (sn (sn (sn (sn (sn (sn c)))))))))))))))))))))))))) .normal A28 H28 A29 H29 :=
  Leads.of (evalF_ok mixed 200) mixed [2, 270, 271, 275, 276, 277, 278, 279, 280, 281, 282, 283, 287, 288, 289, 290, 291, 302, 303, 304, 305, 306, 307, 309, 310, 314, 330, 605, 993, 1247, 1670] (by kernel_rfl)
theorem p29 : Leads Tryz.prog 6 none (sn (sn (sn (sn (sn (sn (sn (sn (sn (sn (sn (sn (sn (sn (sn (sn (sn (sn (sn (sn (sn (sn (sn (sn (sn (sn c)))))))))))))))))))))))))) .ret A29 H29 A30 H30 :=
  Leads.of (evalF_ok mixed 200) mixed [2, 270, 271, 275, 276, 277, 278, 279, 280, 281, 282, 283, 287, 288, 289, 290, 291, 302, 303, 304, 305, 306, 307, 309, 310, 314, 330, 605, 993, 1247, 1670] (by kernel_rfl)
end Go.Proofs.YtdohkfgflpdkcaaGreatDoor.known
