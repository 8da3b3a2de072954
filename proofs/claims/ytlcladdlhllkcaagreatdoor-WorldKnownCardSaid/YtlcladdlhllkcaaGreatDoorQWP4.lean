/-
  PROVED HERE: the piece whose call was cut.
-/
import Derived.Test.YtlcladdlhllkcaaGreatDoorQWL0
import Derived.Test.YtlcladdlhllkcaaGreatDoorQWL1
import Derived.Test.YtlcladdlhllkcaaGreatDoorQWL2
import Derived.Test.YtlcladdlhllkcaaGreatDoorQWL3
import Derived.Test.YtlcladdlhllkcaaGreatDoorQWL4
namespace Go.Proofs.YtlcladdlhllkcaaGreatDoor.known
open Go Go.Eng
set_option linter.unusedVariables false
theorem body : Leads Tryz.prog 4 none b .ret C0 J0 C13 J13 :=
  (Leads.both (by kernel_rfl) m0 (Leads.scope' (by kernel_rfl) (Leads.both (by kernel_rfl) m1 (Leads.both (by kernel_rfl) m2 (Leads.both (by kernel_rfl) m3 (Leads.both (by kernel_rfl) m4 (Leads.both (by kernel_rfl) (Leads.block' (id := 1) (by kernel_rfl) (Leads.loop' (by kernel_rfl) (LeadsIn.step r0 (LeadsIn.step r1 (LeadsIn.step r2 (LeadsIn.step r3 (LeadsIn.step r4 (LeadsIn.last (by intro h; cases h) r5)))))))) (Leads.both (by kernel_rfl) m11 m12))))))))
theorem leave4 : leaveE Tryz.prog Tryz.f4 C13 J13 = some (vres, J13) := by kernel_rfl
theorem ans : Answers Tryz.prog (.fn 4 [.pointer (some ⟨224, 0, none⟩), .int .i64 (.ofNat 10000000)]) J0 vres J13 :=
  Answers.fn (a0 := C0) Tryz.func4 (b := b) (by kernel_rfl) (by kernel_rfl) (by kernel_rfl) body (.inr rfl) leave4
theorem at2 : LeadsAt Tryz.prog 3 none (opsOf (fs (sn (sn (sn (sn (sn (sn (sn (sn (sn (sn (sn (sn (sn (sn (sn (sn (sn (sn (sn (sn (sn c))))))))))))))))))))))) 2 D J13 A26 J13 := LeadsAt.of (evalF_ok mixed 200) (by kernel_rfl)
theorem at1 : LeadsAt Tryz.prog 3 none (opsOf (fs (sn (sn (sn (sn (sn (sn (sn (sn (sn (sn (sn (sn (sn (sn (sn (sn (sn (sn (sn (sn (sn c))))))))))))))))))))))) 1 C J0 A26 J13 := LeadsAt.call' (d := some 195) (by kernel_rfl) ans (by kernel_rfl) at2
theorem at0 : LeadsAt Tryz.prog 3 none (opsOf (fs (sn (sn (sn (sn (sn (sn (sn (sn (sn (sn (sn (sn (sn (sn (sn (sn (sn (sn (sn (sn (sn c))))))))))))))))))))))) 0 A25 J0 A26 J13 := LeadsAt.step' (evalF_ok mixed 200) (by kernel_rfl) at1
theorem same : H25 = J0 := by kernel_rfl
theorem p25 : Leads Tryz.prog 3 none (fs (sn (sn (sn (sn (sn (sn (sn (sn (sn (sn (sn (sn (sn (sn (sn (sn (sn (sn (sn (sn (sn c)))))))))))))))))))))) .normal A25 H25 A26 H26 := by
  rw [same]
  exact Leads.prune [0, 65, 66, 68, 71, 74, 77, 78, 135, 136, 137, 138, 139, 140, 141, 146, 147, 156, 157, 158, 159, 160, 161, 162, 163, 164, 168, 169, 170, 171, 174, 175, 186, 187, 188, 189, 190, 191, 200, 201, 202, 203, 204, 205, 214, 215, 216, 217, 218, 219, 221, 222, 223, 224, 227, 228, 231, 236, 241, 243, 244, 943] (Leads.region' (by kernel_rfl) at0) (by kernel_rfl)
end Go.Proofs.YtlcladdlhllkcaaGreatDoor.known
