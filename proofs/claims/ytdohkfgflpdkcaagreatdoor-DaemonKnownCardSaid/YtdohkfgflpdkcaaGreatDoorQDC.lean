/-
  PROVED HERE: the reckoned call is true, in every world in which the one table reads as laid.
-/
import Derived.Test.YtdohkfgflpdkcaaGreatDoorQDP0
import Derived.Test.YtdohkfgflpdkcaaGreatDoorQDP1
import Derived.Test.YtdohkfgflpdkcaaGreatDoorQDP2
import Derived.Test.YtdohkfgflpdkcaaGreatDoorQDP3
import Derived.Test.YtdohkfgflpdkcaaGreatDoorQDP4
import Derived.Test.YtdohkfgflpdkcaaGreatDoorQDP5
import Derived.Test.YtdohkfgflpdkcaaGreatDoorQDP6
namespace Go.Proofs.YtdohkfgflpdkcaaGreatDoor.known
open Go Go.Eng
set_option linter.unusedVariables false
def sizes : List Value := [.int .i64 (.ofNat 1), .int .i64 (.ofNat 1), .int .i64 (.ofNat 1), .int .i64 (.ofNat 1), .int .i64 (.ofNat 4), .int .i64 (.ofNat 4), .int .i64 (.ofNat 4), .int .i64 (.ofNat 8), .int .i64 (.ofNat 8), .int .i64 (.ofNat 8), .int .i64 (.ofNat 8)]
theorem leads : Leads Tryz.prog 6 none c .ret A0 H0 A30 H30 :=
  (Leads.both (by kernel_rfl) p0 (Leads.both (by kernel_rfl) p1 (Leads.both (by kernel_rfl) p2 (Leads.both (by kernel_rfl) p3 (Leads.both (by kernel_rfl) p4 (Leads.both (by kernel_rfl) p5 (Leads.both (by kernel_rfl) (Leads.both (by kernel_rfl) p6 p7) (Leads.both (by kernel_rfl) p8 (Leads.both (by kernel_rfl) (Leads.both (by kernel_rfl) p9 p10) (Leads.both (by kernel_rfl) p11 (Leads.both (by kernel_rfl) p12 (Leads.both (by kernel_rfl) p13 (Leads.both (by kernel_rfl) p14 (Leads.both (by kernel_rfl) (Leads.both (by kernel_rfl) p15 p16) (Leads.both (by kernel_rfl) p17 (Leads.both (by kernel_rfl) p18 (Leads.both (by kernel_rfl) p19 (Leads.both (by kernel_rfl) p20 (Leads.both (by kernel_rfl) p21 (Leads.both (by kernel_rfl) p22 (Leads.both (by kernel_rfl) p23 (Leads.both (by kernel_rfl) p24 (Leads.both (by kernel_rfl) p25 (Leads.both (by kernel_rfl) p26 (Leads.both (by kernel_rfl) p27 (Leads.both (by kernel_rfl) p28 p29))))))))))))))))))))))))))
noncomputable def left : H := ((leaveE Tryz.prog Tryz.f6 A30 H30).getD (.nilFunc, H30)).2
theorem leaves : leaveE Tryz.prog Tryz.f6 A30 H30 = some (.bool true, left) := by kernel_rfl
theorem kept : ∃ m, left.t.get 2 = some (.ro m) := ⟨sizes, by kernel_rfl⟩
theorem call {w : World} {ty : TypeId} {fr : Nat × Nat} {post : List Value} (hw : w.heap[2]? = some (.cells ⟨sizes ++ post⟩ ty fr)) :
    Calls Tryz.prog 6 #[] w fun e w' => e = .returned (.bool true) ∧ Go.RowKit.Below w.heap.size w w' :=
  calls_true' Tryz.func6 (b := c) (by kernel_rfl) (by decide) (.cons (.int _ _) (.cons (.int _ _) (.cons (.int _ _) (.cons (.int _ _) (.cons (.int _ _) (.cons (.int _ _) (.cons (.int _ _) (.cons (.int _ _) (.cons (.int _ _) (.cons (.int _ _) (.cons (.int _ _) .nil))))))))))) (by kernel_rfl) (by kernel_rfl) leads (.inr rfl) leaves kept hw
end Go.Proofs.YtdohkfgflpdkcaaGreatDoor.known
