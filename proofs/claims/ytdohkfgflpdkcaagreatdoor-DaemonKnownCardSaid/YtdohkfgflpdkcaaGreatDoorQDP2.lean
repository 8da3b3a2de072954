/-
  PROVED HERE: pieces of the reckoned call.
-/
import Derived.Test.YtdohkfgflpdkcaaGreatDoorQDM
namespace Go.Proofs.YtdohkfgflpdkcaaGreatDoor.known
open Go Go.Eng
set_option linter.unusedVariables false
theorem p18 : Leads Tryz.prog 6 none (fs (sn (sn (sn (sn (sn (sn (sn (sn (sn (sn (sn (sn (sn (sn (sn c)))))))))))))))) .normal A18 H18 A19 H19 :=
  Leads.of (evalF_ok mixed 200) mixed [2, 270, 271, 275, 276, 277, 278, 279, 280, 281, 282, 283, 287, 288, 289, 290, 291, 302, 303, 304, 305, 306, 307, 309, 310, 314, 330] (by kernel_rfl)
theorem p19 : Leads Tryz.prog 6 none (fs (sn (sn (sn (sn (sn (sn (sn (sn (sn (sn (sn (sn (sn (sn (sn (sn c))))))))))))))))) .normal A19 H19 A20 H20 :=
  Leads.of (evalF_ok mixed 200) mixed [2, 270, 271, 275, 276, 277, 278, 279, 280, 281, 282, 283, 287, 288, 289, 290, 291, 302, 303, 304, 305, 306, 307, 309, 310, 314, 330] (by kernel_rfl)
theorem p20 : Leads Tryz.prog 6 none (fs (sn (sn (sn (sn (sn (sn (sn (sn (sn (sn (sn (sn (sn (sn (sn (sn (sn c)))))))))))))))))) .normal A20 H20 A21 H21 :=
  Leads.of (evalF_ok mixed 200) mixed [2, 270, 271, 275, 276, 277, 278, 279, 280, 281, 282, 283, 287, 288, 289, 290, 291, 302, 303, 304, 305, 306, 307, 309, 310, 314, 330] (by kernel_rfl)
end Go.Proofs.YtdohkfgflpdkcaaGreatDoor.known
