/-
  PROVED HERE: the reckoned call is true, in every world in which the one table reads as laid.
-/
import Derived.Test.YtlcladdlhllkcaaGreatDoorQWP0
import Derived.Test.YtlcladdlhllkcaaGreatDoorQWP2
import Derived.Test.YtlcladdlhllkcaaGreatDoorQWP4
import Derived.Test.YtlcladdlhllkcaaGreatDoorQWP5
import Derived.Test.YtlcladdlhllkcaaGreatDoorQWP6
namespace Go.Proofs.YtlcladdlhllkcaaGreatDoor.known
open Go Go.Eng
set_option linter.unusedVariables false
def sizes : List Value := [.int .i64 (.ofNat 1), .int .i64 (.ofNat 1), .int .i64 (.ofNat 1), .int .i64 (.ofNat 1), .int .i64 (.ofNat 4), .int .i64 (.ofNat 4), .int .i64 (.ofNat 4), .int .i64 (.ofNat 8), .int .i64 (.ofNat 8), .int .i64 (.ofNat 8), .int .i64 (.ofNat 8)]
theorem leads : Leads Tryz.prog 3 none c .ret A0 H0 A31 H31 :=
  (Leads.both (by kernel_rfl) p0 (Leads.both (by kernel_rfl) p1 (Leads.both (by kernel_rfl) p2 (Leads.both (by kernel_rfl) (Leads.both (by kernel_rfl) p3 p4) (Leads.both (by kernel_rfl) p5 (Leads.both (by kernel_rfl) p6 (Leads.both (by kernel_rfl) p7 (Leads.both (by kernel_rfl) p8 (Leads.both (by kernel_rfl) p9 (Leads.both (by kernel_rfl) p10 (Leads.both (by kernel_rfl) (Leads.both (by kernel_rfl) p11 p12) (Leads.both (by kernel_rfl) p13 (Leads.both (by kernel_rfl) p14 (Leads.both (by kernel_rfl) p15 (Leads.both (by kernel_rfl) p16 (Leads.both (by kernel_rfl) p17 (Leads.both (by kernel_rfl) (Leads.both (by kernel_rfl) p18 p19) (Leads.both (by kernel_rfl) p20 (Leads.both (by kernel_rfl) p21 (Leads.both (by kernel_rfl) (Leads.both (by kernel_rfl) p22 p23) (Leads.both (by kernel_rfl) p24 (Leads.both (by kernel_rfl) p25 (Leads.both (by kernel_rfl) p26 (Leads.both (by kernel_rfl) p27 (Leads.both (by kernel_rfl) p28 (Leads.both (by kernel_rfl) p29 p30))))))))))))))))))))))))))
noncomputable def left : H := ((leaveE Tryz.prog Tryz.f3 A31 H31).getD (.nilFunc, H31)).2
theorem leaves : leaveE Tryz.prog Tryz.f3 A31 H31 = some (.bool true, left) := by kernel_rfl
theorem kept : ∃ m, left.t.get 0 = some (.ro m) := ⟨sizes, by kernel_rfl⟩
theorem call {w : World} {ty : TypeId} {fr : Nat × Nat} {post : List Value} (hw : w.heap[0]? = some (.cells ⟨sizes ++ post⟩ ty fr)) :
    Calls Tryz.prog 3 #[] w fun e w' => e = .returned (.bool true) ∧ Go.RowKit.Below w.heap.size w w' :=
  calls_true' Tryz.func3 (b := c) (by kernel_rfl) (by decide) (.cons (.int _ _) (.cons (.int _ _) (.cons (.int _ _) (.cons (.int _ _) (.cons (.int _ _) (.cons (.int _ _) (.cons (.int _ _) (.cons (.int _ _) (.cons (.int _ _) (.cons (.int _ _) (.cons (.int _ _) .nil))))))))))) (by kernel_rfl) (by kernel_rfl) leads (.inr rfl) leaves kept hw
end Go.Proofs.YtlcladdlhllkcaaGreatDoor.known
