/-
  PROVED HERE: pieces of the reckoned call.
-/
import Derived.Test.YtlcladdlhllkcaaGreatDoorQWM
namespace Go.Proofs.YtlcladdlhllkcaaGreatDoor.known
open Go Go.Eng
set_option linter.unusedVariables false
theorem p0 : Leads Tryz.prog 3 none (fs c) .normal A0 H0 A1 H1 :=
  Leads.of (evalF_ok mixed 200) mixed [0] (by kernel_rfl)
theorem p1 : Leads Tryz.prog 3 none (fs (sn c)) .normal A1 H1 A2 H2 :=
  Leads.of (evalF_ok mixed 200) mixed [0] (by kernel_rfl)
theorem p2 : Leads Tryz.prog 3 none (fs (sn (sn c))) .normal A2 H2 A3 H3 :=
  Leads.of (evalF_ok mixed 200) mixed [0] (by kernel_rfl)
theorem p3 : Leads Tryz.prog 3 none (fs (fs (sn (sn (sn c))))) .normal A3 H3 A4 H4 :=
  Leads.of (evalF_ok mixed 200) mixed [0] (by kernel_rfl)
theorem p4 : Leads Tryz.prog 3 none (sn (fs (sn (sn (sn c))))) .normal A4 H4 A5 H5 :=
  Leads.of (evalF_ok mixed 200) mixed [0] (by kernel_rfl)
theorem p5 : Leads Tryz.prog 3 none (fs (sn (sn (sn (sn c))))) .normal A5 H5 A6 H6 :=
  Leads.of (evalF_ok mixed 200) mixed [0, 65] (by kernel_rfl)
theorem p6 : Leads Tryz.prog 3 none (fs (sn (sn (sn (sn (sn c)))))) .normal A6 H6 A7 H7 :=
  Leads.of (evalF_ok mixed 200) mixed [0, 65, 66] (by kernel_rfl)
theorem p7 : Leads Tryz.prog 3 none (fs (sn (sn (sn (sn (sn (sn c))))))) .normal A7 H7 A8 H8 :=
  Leads.of (evalF_ok mixed 200) mixed [0, 65, 66, 68] (by kernel_rfl)
theorem p8 : Leads Tryz.prog 3 none (fs (sn (sn (sn (sn (sn (sn (sn c)))))))) .normal A8 H8 A9 H9 :=
  Leads.of (evalF_ok mixed 200) mixed [0, 65, 66, 68, 71] (by kernel_rfl)
theorem p9 : Leads Tryz.prog 3 none (fs (sn (sn (sn (sn (sn (sn (sn (sn c))))))))) .normal A9 H9 A10 H10 :=
  Leads.of (evalF_ok mixed 200) mixed [0, 65, 66, 68, 71, 74] (by kernel_rfl)
theorem p10 : Leads Tryz.prog 3 none (fs (sn (sn (sn (sn (sn (sn (sn (sn (sn c)))))))))) .normal A10 H10 A11 H11 :=
  Leads.of (evalF_ok mixed 200) mixed [0, 65, 66, 68, 71, 74, 77, 78] (by kernel_rfl)
theorem p11 : Leads Tryz.prog 3 none (fs (fs (sn (sn (sn (sn (sn (sn (sn (sn (sn (sn c)))))))))))) .normal A11 H11 A12 H12 :=
  Leads.of (evalF_ok mixed 200) mixed [0, 65, 66, 68, 71, 74, 77, 78] (by kernel_rfl)
theorem p12 : Leads Tryz.prog 3 none (sn (fs (sn (sn (sn (sn (sn (sn (sn (sn (sn (sn c)))))))))))) .normal A12 H12 A13 H13 :=
  Leads.of (evalF_ok mixed 200) mixed [0, 65, 66, 68, 71, 74, 77, 78] (by kernel_rfl)
theorem p13 : Leads Tryz.prog 3 none (fs (sn (sn (sn (sn (sn (sn (sn (sn (sn (sn (sn c)))))))))))) .normal A13 H13 A14 H14 :=
  Leads.of (evalF_ok mixed 200) mixed [0, 65, 66, 68, 71, 74, 77, 78, 135, 136] (by kernel_rfl)
theorem p14 : Leads Tryz.prog 3 none (fs (sn (sn (sn (sn (sn (sn (sn (sn (sn (sn (sn (sn c))))))))))))) .normal A14 H14 A15 H15 :=
  Leads.of (evalF_ok mixed 200) mixed [0, 65, 66, 68, 71, 74, 77, 78, 135, 136, 137, 138] (by kernel_rfl)
theorem p15 : Leads Tryz.prog 3 none (fs (sn (sn (sn (sn (sn (sn (sn (sn (sn (sn (sn (sn (sn c)))))))))))))) .normal A15 H15 A16 H16 :=
  Leads.of (evalF_ok mixed 200) mixed [0, 65, 66, 68, 71, 74, 77, 78, 135, 136, 137, 138, 139] (by kernel_rfl)
theorem p16 : Leads Tryz.prog 3 none (fs (sn (sn (sn (sn (sn (sn (sn (sn (sn (sn (sn (sn (sn (sn c))))))))))))))) .normal A16 H16 A17 H17 :=
  Leads.of (evalF_ok mixed 200) mixed [0, 65, 66, 68, 71, 74, 77, 78, 135, 136, 137, 138, 139] (by kernel_rfl)
theorem p17 : Leads Tryz.prog 3 none (fs (sn (sn (sn (sn (sn (sn (sn (sn (sn (sn (sn (sn (sn (sn (sn c)))))))))))))))) .normal A17 H17 A18 H18 :=
  Leads.of (evalF_ok mixed 200) mixed [0, 65, 66, 68, 71, 74, 77, 78, 135, 136, 137, 138, 139, 140, 141, 146, 147, 156, 157, 158, 159, 160, 161, 162, 163, 164, 168, 169, 170, 171, 174, 175, 186, 187, 188, 189, 190, 191, 200, 201, 202, 203, 204, 205, 214, 215, 216, 217, 218, 219, 221, 222, 223, 224, 227, 228, 231, 236, 241, 243] (by kernel_rfl)
theorem p18 : Leads Tryz.prog 3 none (fs (fs (sn (sn (sn (sn (sn (sn (sn (sn (sn (sn (sn (sn (sn (sn (sn (sn c)))))))))))))))))) .normal A18 H18 A19 H19 :=
  Leads.of (evalF_ok mixed 200) mixed [0, 65, 66, 68, 71, 74, 77, 78, 135, 136, 137, 138, 139, 140, 141, 146, 147, 156, 157, 158, 159, 160, 161, 162, 163, 164, 168, 169, 170, 171, 174, 175, 186, 187, 188, 189, 190, 191, 200, 201, 202, 203, 204, 205, 214, 215, 216, 217, 218, 219, 221, 222, 223, 224, 227, 228, 231, 236, 241, 243] (by kernel_rfl)
theorem p19 : Leads Tryz.prog 3 none (sn (fs (sn (sn (sn (sn (sn (sn (sn (sn (sn (sn (sn (sn (sn (sn (sn (sn c)))))))))))))))))) .normal A19 H19 A20 H20 :=
  Leads.of (evalF_ok mixed 200) mixed [0, 65, 66, 68, 71, 74, 77, 78, 135, 136, 137, 138, 139, 140, 141, 146, 147, 156, 157, 158, 159, 160, 161, 162, 163, 164, 168, 169, 170, 171, 174, 175, 186, 187, 188, 189, 190, 191, 200, 201, 202, 203, 204, 205, 214, 215, 216, 217, 218, 219, 221, 222, 223, 224, 227, 228, 231, 236, 241, 243] (by kernel_rfl)
theorem p20 : Leads Tryz.prog 3 none (fs (sn (sn (sn (sn (sn (sn (sn (sn (sn (sn (sn (sn (sn (sn (sn (sn (sn c)))))))))))))))))) .normal A20 H20 A21 H21 :=
  Leads.of (evalF_ok mixed 200) mixed [0, 65, 66, 68, 71, 74, 77, 78, 135, 136, 137, 138, 139, 140, 141, 146, 147, 156, 157, 158, 159, 160, 161, 162, 163, 164, 168, 169, 170, 171, 174, 175, 186, 187, 188, 189, 190, 191, 200, 201, 202, 203, 204, 205, 214, 215, 216, 217, 218, 219, 221, 222, 223, 224, 227, 228, 231, 236, 241, 243, 244] (by kernel_rfl)
theorem p21 : Leads Tryz.prog 3 none (fs (sn (sn (sn (sn (sn (sn (sn (sn (sn (sn (sn (sn (sn (sn (sn (sn (sn (sn c))))))))))))))))))) .normal A21 H21 A22 H22 :=
  Leads.of (evalF_ok mixed 200) mixed [0, 65, 66, 68, 71, 74, 77, 78, 135, 136, 137, 138, 139, 140, 141, 146, 147, 156, 157, 158, 159, 160, 161, 162, 163, 164, 168, 169, 170, 171, 174, 175, 186, 187, 188, 189, 190, 191, 200, 201, 202, 203, 204, 205, 214, 215, 216, 217, 218, 219, 221, 222, 223, 224, 227, 228, 231, 236, 241, 243, 244] (by kernel_rfl)
theorem p23 : Leads Tryz.prog 3 none (sn (fs (sn (sn (sn (sn (sn (sn (sn (sn (sn (sn (sn (sn (sn (sn (sn (sn (sn (sn (sn c))))))))))))))))))))) .normal A23 H23 A24 H24 :=
  Leads.of (evalF_ok mixed 200) mixed [0, 65, 66, 68, 71, 74, 77, 78, 135, 136, 137, 138, 139, 140, 141, 146, 147, 156, 157, 158, 159, 160, 161, 162, 163, 164, 168, 169, 170, 171, 174, 175, 186, 187, 188, 189, 190, 191, 200, 201, 202, 203, 204, 205, 214, 215, 216, 217, 218, 219, 221, 222, 223, 224, 227, 228, 231, 236, 241, 243, 244, 418, 650, 884, 943, 945, 947] (by kernel_rfl)
theorem p24 : Leads Tryz.prog 3 none (fs (sn (sn (sn (sn (sn (sn (sn (sn (sn (sn (sn (sn (sn (sn (sn (sn (sn (sn (sn (sn c))))))))))))))))))))) .normal A24 H24 A25 H25 :=
  Leads.of (evalF_ok mixed 200) mixed [0, 65, 66, 68, 71, 74, 77, 78, 135, 136, 137, 138, 139, 140, 141, 146, 147, 156, 157, 158, 159, 160, 161, 162, 163, 164, 168, 169, 170, 171, 174, 175, 186, 187, 188, 189, 190, 191, 200, 201, 202, 203, 204, 205, 214, 215, 216, 217, 218, 219, 221, 222, 223, 224, 227, 228, 231, 236, 241, 243, 244, 418, 650, 884, 943, 945, 947] (by kernel_rfl)
end Go.Proofs.YtlcladdlhllkcaaGreatDoor.known
