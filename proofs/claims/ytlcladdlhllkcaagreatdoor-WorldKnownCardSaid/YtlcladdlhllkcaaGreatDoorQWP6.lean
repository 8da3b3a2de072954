/-
  PROVED HERE: pieces of the reckoned call.
-/
import Derived.Test.YtlcladdlhllkcaaGreatDoorQWM
namespace Go.Proofs.YtlcladdlhllkcaaGreatDoor.known
open Go Go.Eng
set_option linter.unusedVariables false
theorem p29 : Leads Tryz.prog 3 none (fs (sn (sn (sn (sn (sn (sn (sn (sn (sn (sn (sn (sn (sn (sn (sn (sn (sn (sn (sn (sn (sn (sn (sn (sn (sn c)))))))))))))))))))))))))) .normal A29 H29 A30 H30 :=
  Leads.of (evalF_ok mixed 200) mixed [0, 65, 66, 68, 71, 74, 77, 78, 135, 136, 137, 138, 139, 140, 141, 146, 147, 156, 157, 158, 159, 160, 161, 162, 163, 164, 168, 169, 170, 171, 174, 175, 186, 187, 188, 189, 190, 191, 200, 201, 202, 203, 204, 205, 214, 215, 216, 217, 218, 219, 221, 222, 223, 224, 227, 228, 231, 236, 241, 243, 244, 943] (by kernel_rfl)
theorem p30 : Leads Tryz.prog 3 none (sn (sn (sn (sn (sn (sn (sn (sn (sn (sn (sn (sn (sn (sn (sn (sn (sn (sn (sn (sn (sn (sn (sn (sn (sn (sn c)))))))))))))))))))))))))) .ret A30 H30 A31 H31 :=
  Leads.of (evalF_ok mixed 200) mixed [0, 65, 66, 68, 71, 74, 77, 78, 135, 136, 137, 138, 139, 140, 141, 146, 147, 156, 157, 158, 159, 160, 161, 162, 163, 164, 168, 169, 170, 171, 174, 175, 186, 187, 188, 189, 190, 191, 200, 201, 202, 203, 204, 205, 214, 215, 216, 217, 218, 219, 221, 222, 223, 224, 227, 228, 231, 236, 241, 243, 244, 943] (by kernel_rfl)
end Go.Proofs.YtlcladdlhllkcaaGreatDoor.known
