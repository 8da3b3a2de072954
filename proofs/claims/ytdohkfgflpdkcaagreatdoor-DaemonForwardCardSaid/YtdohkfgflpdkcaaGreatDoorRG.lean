/-
  PROVED HERE: a part of the proof of DaemonForward (texts RF5 of the prover, joined). No condition of its own.
-/
import Derived.Test.YtdohkfgflpdkcaaGreatDoorRows
import Derived.ProofKit
import Derived.LaidMore
import Derived.Lay
set_option linter.unusedVariables false
set_option linter.unusedSimpArgs false
namespace Go.Proofs.YtdohkfgflpdkcaaGreatDoor.forward
open Go Go.ChangeShapes Go.WideShapes Go.ChangeAt Go.RowKit
theorem w1 (os:Os):World.variablesZipB Tryz.prog ((World.laidAll Tryz.prog os Rows.daemonForwardRow.laid).forCall (fun _ _=>0) ⟨#[],#[.agg #[.int .i64 0,.int .u64 0,.int .i64 0,.int .i64 0,.int .i64 0,.int .i64 0,.int .i64 0,.int .i64 0,.slice none 0 0,.slice none 0 0,.slice none 0 0,.int .i64 0],.int .u64 0,.slice none 0 0],[]⟩)=true:=by kernel_rfl
theorem w2 (os:Os):(((World.laidAll Tryz.prog os Rows.daemonForwardRow.laid).forCall (fun _ _=>0) ⟨#[],#[.agg #[.int .i64 0,.int .u64 0,.int .i64 0,.int .i64 0,.int .i64 0,.int .i64 0,.int .i64 0,.int .i64 0,.slice none 0 0,.slice none 0 0,.slice none 0 0,.int .i64 0],.int .u64 0,.slice none 0 0],[]⟩).heap.toList.drop Tryz.prog.globals.size).take ((begin Tryz.prog (fun _ _=>0) default).world.heap.size - Tryz.prog.globals.size)=(begin Tryz.prog (fun _ _=>0) default).world.heap.toList.drop Tryz.prog.globals.size:=by kernel_rfl
theorem w3 (os:Os):Input.okWideB Tryz.prog ((World.laidAll Tryz.prog os Rows.daemonForwardRow.laid).forCall (fun _ _=>0) ⟨#[],#[.agg #[.int .i64 0,.int .u64 0,.int .i64 0,.int .i64 0,.int .i64 0,.int .i64 0,.int .i64 0,.int .i64 0,.slice none 0 0,.slice none 0 0,.slice none 0 0,.int .i64 0],.int .u64 0,.slice none 0 0],[]⟩) 4 ⟨#[],#[.agg #[.int .i64 0,.int .u64 0,.int .i64 0,.int .i64 0,.int .i64 0,.int .i64 0,.int .i64 0,.int .i64 0,.slice none 0 0,.slice none 0 0,.slice none 0 0,.int .i64 0],.int .u64 0,.slice none 0 0],[]⟩=true:=by kernel_rfl
theorem w4 {H:Type} (enc:TypeId×Value→H) (os:Os):Rows.daemonForwardSpec.preB enc Tryz.prog Tryz.f4 Rows.daemonForwardRow.domain false ((World.laidAll Tryz.prog os Rows.daemonForwardRow.laid).forCall (fun _ _=>0) ⟨#[],#[.agg #[.int .i64 0,.int .u64 0,.int .i64 0,.int .i64 0,.int .i64 0,.int .i64 0,.int .i64 0,.int .i64 0,.slice none 0 0,.slice none 0 0,.slice none 0 0,.int .i64 0],.int .u64 0,.slice none 0 0],[]⟩).memory #[.agg #[.int .i64 0,.int .u64 0,.int .i64 0,.int .i64 0,.int .i64 0,.int .i64 0,.int .i64 0,.int .i64 0,.slice none 0 0,.slice none 0 0,.slice none 0 0,.int .i64 0],.int .u64 0,.slice none 0 0] 8=true:=by kernel_rfl
theorem w5 {H:Type} (enc:TypeId×Value→H) (os:Os):Rows.daemonForwardSpec.sizedB enc Tryz.prog Tryz.f4 false ((World.laidAll Tryz.prog os Rows.daemonForwardRow.laid).forCall (fun _ _=>0) ⟨#[],#[.agg #[.int .i64 0,.int .u64 0,.int .i64 0,.int .i64 0,.int .i64 0,.int .i64 0,.int .i64 0,.int .i64 0,.slice none 0 0,.slice none 0 0,.slice none 0 0,.int .i64 0],.int .u64 0,.slice none 0 0],[]⟩).memory #[.agg #[.int .i64 0,.int .u64 0,.int .i64 0,.int .i64 0,.int .i64 0,.int .i64 0,.int .i64 0,.int .i64 0,.slice none 0 0,.slice none 0 0,.slice none 0 0,.int .i64 0],.int .u64 0,.slice none 0 0] 8=true:=by kernel_rfl
theorem w6 (os:Os):(World.holding Tryz.prog os ⟨#[],#[],[]⟩).layFits Tryz.prog Rows.daemonForwardRow.laid []=true:=by kernel_rfl
theorem w7 (os:Os):(World.holding Tryz.prog os ⟨#[],#[],[]⟩).layIfaces Tryz.prog Rows.daemonForwardRow.laid (World.laidAll Tryz.prog os Rows.daemonForwardRow.laid)=true:=by kernel_rfl
theorem own:ownKnob Tryz.prog.godebug=none:=by kernel_rfl
theorem noInit:Tryz.checked.prog.inits.idxOf? 4=none:=by kernel_rfl
end Go.Proofs.YtdohkfgflpdkcaaGreatDoor.forward
