/-
  PROVED HERE: the card's closed facts.
-/
import Derived.Test.YtlcladdlhllkcaaGreatDoorQWF1
import Derived.Test.YtlcladdlhllkcaaGreatDoorCards
namespace Go.Proofs.YtlcladdlhllkcaaGreatDoor.known
open Go Go.ChangeShapes Go.WideShapes Go.ChangeAt Go.RowKit
set_option linter.unusedVariables false
theorem byText : Rows.worldKnownRow.wfByText (OpenSpec.ofChange Rows.worldKnownSpec) = true := by kernel_rfl
theorem mainIs : Tryz.pinned.checked.prog.mainIs = some (true, ("a4645eb8fd7ee213ea83f2d860b3b8a1e252b0656ca3b95ab937caad522a0e4e" : String).toList) := by kernel_rfl
theorem looks : false = Tryz.pinned.checked.prog.looks [] := by kernel_rfl
theorem theFunc : Tryz.pinned.checked.prog.funcNamed "ephemeris/ephemerislaw31.WorldKnown" = some 3 := by kernel_rfl
theorem goes_of (P : Program) (c : OpenClaim) (hs : c.start = .entering) (h : P.goesFrom c.func = false) : false = c.goesBy P := by
  unfold OpenClaim.goesBy Program.goesAt
  rw [h, hs]
  rfl
theorem goesFrom_of (P : Program) (n : String) (f : FuncId) (hf : P.funcNamed n = some f) (h : P.goes f = false) : P.goesFrom n = false := by
  unfold Program.goesFrom
  rw [hf]
  exact h
theorem goes : false = Rows.worldKnownRow.goesBy Tryz.pinned.checked.prog := goes_of _ _ rfl (goesFrom_of _ _ 3 theFunc goesNot)
end Go.Proofs.YtlcladdlhllkcaaGreatDoor.known
