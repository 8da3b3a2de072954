/-
  PROVED HERE: pieces of the cut call.
-/
import Derived.Test.YtlcladdlhllkcaaGreatDoorQWT1
namespace Go.Proofs.YtlcladdlhllkcaaGreatDoor.known
open Go Go.Eng
set_option linter.unusedVariables false
theorem r4 : Leads Tryz.prog 4 none (into (into (fs (sn (sn (sn (sn (into (sn b))))))))) .normal C9 J9 C10 J10 :=
  Leads.of (evalF_ok mixed 200) mixed [0, 65, 66, 68, 71, 74, 77, 78, 135, 136, 137, 138, 139, 140, 141, 146, 147, 156, 157, 158, 159, 160, 161, 162, 163, 164, 168, 169, 170, 171, 174, 175, 186, 187, 188, 189, 190, 191, 200, 201, 202, 203, 204, 205, 214, 215, 216, 217, 218, 219, 221, 222, 223, 224, 227, 228, 231, 236, 241, 243, 244, 943] (by kernel_rfl)
theorem r5 : Leads Tryz.prog 4 none (into (into (fs (sn (sn (sn (sn (into (sn b))))))))) (.exit 1) C10 J10 C11 J11 :=
  Leads.of (evalF_ok mixed 200) mixed [0, 65, 66, 68, 71, 74, 77, 78, 135, 136, 137, 138, 139, 140, 141, 146, 147, 156, 157, 158, 159, 160, 161, 162, 163, 164, 168, 169, 170, 171, 174, 175, 186, 187, 188, 189, 190, 191, 200, 201, 202, 203, 204, 205, 214, 215, 216, 217, 218, 219, 221, 222, 223, 224, 227, 228, 231, 236, 241, 243, 244, 943] (by kernel_rfl)
theorem m11 : Leads Tryz.prog 4 none (fs (sn (sn (sn (sn (sn (into (sn b)))))))) .normal C11 J11 C12 J12 :=
  Leads.of (evalF_ok mixed 200) mixed [0, 65, 66, 68, 71, 74, 77, 78, 135, 136, 137, 138, 139, 140, 141, 146, 147, 156, 157, 158, 159, 160, 161, 162, 163, 164, 168, 169, 170, 171, 174, 175, 186, 187, 188, 189, 190, 191, 200, 201, 202, 203, 204, 205, 214, 215, 216, 217, 218, 219, 221, 222, 223, 224, 227, 228, 231, 236, 241, 243, 244, 943] (by kernel_rfl)
theorem m12 : Leads Tryz.prog 4 none (sn (sn (sn (sn (sn (sn (into (sn b)))))))) .ret C12 J12 C13 J13 :=
  Leads.of (evalF_ok mixed 200) mixed [0, 65, 66, 68, 71, 74, 77, 78, 135, 136, 137, 138, 139, 140, 141, 146, 147, 156, 157, 158, 159, 160, 161, 162, 163, 164, 168, 169, 170, 171, 174, 175, 186, 187, 188, 189, 190, 191, 200, 201, 202, 203, 204, 205, 214, 215, 216, 217, 218, 219, 221, 222, 223, 224, 227, 228, 231, 236, 241, 243, 244, 943] (by kernel_rfl)
end Go.Proofs.YtlcladdlhllkcaaGreatDoor.known
