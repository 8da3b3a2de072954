/-
  PROVED HERE: pieces of the reckoned call.
-/
import Derived.Test.YtdohkfgflpdkcaaGreatDoorQDM
namespace Go.Proofs.YtdohkfgflpdkcaaGreatDoor.known
open Go Go.Eng
set_option linter.unusedVariables false
theorem p9 : Leads Tryz.prog 6 none (fs (fs (sn (sn (sn (sn (sn (sn (sn (sn c)))))))))) .normal A9 H9 A10 H10 :=
  Leads.of (evalF_ok mixed 200) mixed [2] (by kernel_rfl)
theorem p10 : Leads Tryz.prog 6 none (sn (fs (sn (sn (sn (sn (sn (sn (sn (sn c)))))))))) .normal A10 H10 A11 H11 :=
  Leads.of (evalF_ok mixed 200) mixed [2] (by kernel_rfl)
theorem p11 : Leads Tryz.prog 6 none (fs (sn (sn (sn (sn (sn (sn (sn (sn (sn c)))))))))) .normal A11 H11 A12 H12 :=
  Leads.of (evalF_ok mixed 200) mixed [2, 270] (by kernel_rfl)
theorem p12 : Leads Tryz.prog 6 none (fs (sn (sn (sn (sn (sn (sn (sn (sn (sn (sn c))))))))))) .normal A12 H12 A13 H13 :=
  Leads.of (evalF_ok mixed 200) mixed [2, 270, 271] (by kernel_rfl)
theorem p13 : Leads Tryz.prog 6 none (fs (sn (sn (sn (sn (sn (sn (sn (sn (sn (sn (sn c)))))))))))) .normal A13 H13 A14 H14 :=
  Leads.of (evalF_ok mixed 200) mixed [2, 270, 271] (by kernel_rfl)
theorem p14 : Leads Tryz.prog 6 none (fs (sn (sn (sn (sn (sn (sn (sn (sn (sn (sn (sn (sn c))))))))))))) .normal A14 H14 A15 H15 :=
  Leads.of (evalF_ok mixed 200) mixed [2, 270, 271, 275, 276, 277, 278, 279, 280, 281, 282, 283, 287, 288, 289, 290, 291, 302, 303, 304, 305, 306, 307, 309, 310] (by kernel_rfl)
theorem p15 : Leads Tryz.prog 6 none (fs (fs (sn (sn (sn (sn (sn (sn (sn (sn (sn (sn (sn (sn (sn c))))))))))))))) .normal A15 H15 A16 H16 :=
  Leads.of (evalF_ok mixed 200) mixed [2, 270, 271, 275, 276, 277, 278, 279, 280, 281, 282, 283, 287, 288, 289, 290, 291, 302, 303, 304, 305, 306, 307, 309, 310, 314] (by kernel_rfl)
theorem p16 : Leads Tryz.prog 6 none (sn (fs (sn (sn (sn (sn (sn (sn (sn (sn (sn (sn (sn (sn (sn c))))))))))))))) .normal A16 H16 A17 H17 :=
  Leads.of (evalF_ok mixed 200) mixed [2, 270, 271, 275, 276, 277, 278, 279, 280, 281, 282, 283, 287, 288, 289, 290, 291, 302, 303, 304, 305, 306, 307, 309, 310, 314] (by kernel_rfl)
theorem p17 : Leads Tryz.prog 6 none (fs (sn (sn (sn (sn (sn (sn (sn (sn (sn (sn (sn (sn (sn (sn c))))))))))))))) .normal A17 H17 A18 H18 :=
  Leads.of (evalF_ok mixed 200) mixed [2, 270, 271, 275, 276, 277, 278, 279, 280, 281, 282, 283, 287, 288, 289, 290, 291, 302, 303, 304, 305, 306, 307, 309, 310, 314] (by kernel_rfl)
end Go.Proofs.YtdohkfgflpdkcaaGreatDoor.known
