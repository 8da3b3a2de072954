/-
  PROVED HERE: pieces of the reckoned call.
-/
import Derived.Test.YtdohkfgflpdkcaaGreatDoorQDM
namespace Go.Proofs.YtdohkfgflpdkcaaGreatDoor.known
open Go Go.Eng
set_option linter.unusedVariables false
theorem p0 : Leads Tryz.prog 6 none (fs c) .normal A0 H0 A1 H1 :=
  Leads.of (evalF_ok mixed 200) mixed [2] (by kernel_rfl)
theorem p1 : Leads Tryz.prog 6 none (fs (sn c)) .normal A1 H1 A2 H2 :=
  Leads.of (evalF_ok mixed 200) mixed [2] (by kernel_rfl)
theorem p2 : Leads Tryz.prog 6 none (fs (sn (sn c))) .normal A2 H2 A3 H3 :=
  Leads.of (evalF_ok mixed 200) mixed [2] (by kernel_rfl)
theorem p3 : Leads Tryz.prog 6 none (fs (sn (sn (sn c)))) .normal A3 H3 A4 H4 :=
  Leads.of (evalF_ok mixed 200) mixed [2] (by kernel_rfl)
theorem p4 : Leads Tryz.prog 6 none (fs (sn (sn (sn (sn c))))) .normal A4 H4 A5 H5 :=
  Leads.of (evalF_ok mixed 200) mixed [2] (by kernel_rfl)
theorem p5 : Leads Tryz.prog 6 none (fs (sn (sn (sn (sn (sn c)))))) .normal A5 H5 A6 H6 :=
  Leads.of (evalF_ok mixed 200) mixed [2] (by kernel_rfl)
theorem p6 : Leads Tryz.prog 6 none (fs (fs (sn (sn (sn (sn (sn (sn c)))))))) .normal A6 H6 A7 H7 :=
  Leads.of (evalF_ok mixed 200) mixed [2] (by kernel_rfl)
theorem p7 : Leads Tryz.prog 6 none (sn (fs (sn (sn (sn (sn (sn (sn c)))))))) .normal A7 H7 A8 H8 :=
  Leads.of (evalF_ok mixed 200) mixed [2] (by kernel_rfl)
theorem p8 : Leads Tryz.prog 6 none (fs (sn (sn (sn (sn (sn (sn (sn c)))))))) .normal A8 H8 A9 H9 :=
  Leads.of (evalF_ok mixed 200) mixed [2] (by kernel_rfl)
end Go.Proofs.YtdohkfgflpdkcaaGreatDoor.known
