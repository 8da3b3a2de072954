/-
  PROVED HERE: a world in which what the row lists is laid.
-/
import Derived.Test.YtlcladdlhllkcaaGreatDoorRows
import Derived.ProofKit
import Derived.LaidMore
import Derived.Lay
namespace Go.Proofs.YtlcladdlhllkcaaGreatDoor.known
open Go Go.ChangeShapes Go.WideShapes Go.ChangeAt Go.RowKit
set_option linter.unusedVariables false
theorem w1 (os : Os) : World.variablesZipB Tryz.prog ((World.laidAll Tryz.prog os Rows.worldKnownRow.laid).forCall (fun _ _ => 0) ⟨#[], #[], []⟩) = true := by kernel_rfl
theorem w2 (os : Os) : (((World.laidAll Tryz.prog os Rows.worldKnownRow.laid).forCall (fun _ _ => 0) ⟨#[], #[], []⟩).heap.toList.drop Tryz.prog.globals.size).take ((begin Tryz.prog (fun _ _ => 0) default).world.heap.size - Tryz.prog.globals.size) = (begin Tryz.prog (fun _ _ => 0) default).world.heap.toList.drop Tryz.prog.globals.size := by kernel_rfl
theorem w3 (os : Os) : Input.okWideB Tryz.prog ((World.laidAll Tryz.prog os Rows.worldKnownRow.laid).forCall (fun _ _ => 0) ⟨#[], #[], []⟩) 3 ⟨#[], #[], []⟩ = true := by kernel_rfl
theorem w4 {H : Type} (enc : TypeId × Value → H) (os : Os) : Rows.worldKnownSpec.preB enc Tryz.prog Tryz.f3 Rows.worldKnownRow.domain false ((World.laidAll Tryz.prog os Rows.worldKnownRow.laid).forCall (fun _ _ => 0) ⟨#[], #[], []⟩).memory #[] 8 = true := by kernel_rfl
theorem w5 {H : Type} (enc : TypeId × Value → H) (os : Os) : Rows.worldKnownSpec.sizedB enc Tryz.prog Tryz.f3 false ((World.laidAll Tryz.prog os Rows.worldKnownRow.laid).forCall (fun _ _ => 0) ⟨#[], #[], []⟩).memory #[] 8 = true := by kernel_rfl
theorem w6 (os : Os) : (World.holding Tryz.prog os ⟨#[], #[], []⟩).layFits Tryz.prog Rows.worldKnownRow.laid [] = true := by kernel_rfl
theorem w7 (os : Os) : (World.holding Tryz.prog os ⟨#[], #[], []⟩).layIfaces Tryz.prog Rows.worldKnownRow.laid (World.laidAll Tryz.prog os Rows.worldKnownRow.laid) = true := by kernel_rfl
theorem own : ownKnob Tryz.prog.godebug = none := by kernel_rfl
theorem noInit : Tryz.checked.prog.inits.idxOf? 3 = none := by kernel_rfl
end Go.Proofs.YtlcladdlhllkcaaGreatDoor.known
