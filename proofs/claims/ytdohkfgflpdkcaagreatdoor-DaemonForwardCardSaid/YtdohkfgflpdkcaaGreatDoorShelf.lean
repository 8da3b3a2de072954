/-
  PROVED HERE: a part of the proof of DaemonForward (texts Shelf of the prover, joined). No condition of its own.
-/
import Derived.Shelf.Strings.Trim
import Derived.Shelf.Small.Bits
import Derived.Shelf.Small.Wraps
import Derived.Shelf.Strconv.Itoa0
import Derived.Shelf.Bits.Mul64
import Derived.Test.YtdohkfgflpdkcaaGreatDoorProg
set_option linter.unusedVariables false
set_option linter.unusedSimpArgs false
namespace Go.Proofs
open Go.Shelf
def Tryz.lays232_ren:Go.Shelf.Ren:=⟨fun |232=>351 |n=>n,fun |9=>9 |5=>5 |3=>3 |4=>4 |n=>n,fun |n=>n⟩
open Go.RowKit in
def Tryz.lays162_ren:Go.Shelf.Ren:=⟨fun |162=>304 |232=>351 |227=>352 |234=>353 |236=>354 |228=>381 |271=>382 |151=>383 |120=>411 |197=>412 |152=>413 |260=>422 |137=>423 |119=>424 |224=>425 |225=>426 |217=>429 |266=>430 |n=>n,fun |9=>9 |4=>4 |3=>3 |5=>5 |117=>437 |116=>436 |0=>0 |124=>440 |21=>21 |105=>457 |46=>51 |119=>491 |139=>494 |138=>493 |n=>n,fun |3=>3 |4=>4 |n=>n⟩
theorem Tryz.lays162:Go.Proofs.Lays.n162 Tryz.prog Tryz.lays162_ren:={
 mixed:=by kernel_rfl
 f119:=Tryz.func424.trans (congrArg some (by kernel_rfl))
 f120:=Tryz.func411.trans (congrArg some (by kernel_rfl))
 f137:=Tryz.func423.trans (congrArg some (by kernel_rfl))
 f151:=Tryz.func383.trans (congrArg some (by kernel_rfl))
 f152:=Tryz.func413.trans (congrArg some (by kernel_rfl))
 f162:=Tryz.func304.trans (congrArg some (by kernel_rfl))
 f197:=Tryz.func412.trans (congrArg some (by kernel_rfl))
 f217:=Tryz.func429.trans (congrArg some (by kernel_rfl))
 f224:=Tryz.func425.trans (congrArg some (by kernel_rfl))
 f225:=Tryz.func426.trans (congrArg some (by kernel_rfl))
 f227:=Tryz.func352.trans (congrArg some (by kernel_rfl))
 f228:=Tryz.func381.trans (congrArg some (by kernel_rfl))
 f232:=Tryz.func351.trans (congrArg some (by kernel_rfl))
 f234:=Tryz.func353.trans (congrArg some (by kernel_rfl))
 f236:=Tryz.func354.trans (congrArg some (by kernel_rfl))
 f260:=Tryz.func422.trans (congrArg some (by kernel_rfl))
 f266:=Tryz.func430.trans (congrArg some (by kernel_rfl))
 f271:=Tryz.func382.trans (congrArg some (by kernel_rfl))
 t0:=Tryz.underlying0
 a0:=Tryz.isAgg0
 z0:=Tryz.sizeOf0
 v0:=Tryz.zeroValue0
 t3:=Tryz.underlying3
 a3:=Tryz.isAgg3
 z3:=Tryz.sizeOf3
 v3:=Tryz.zeroValue3
 t4:=Tryz.underlying4
 a4:=Tryz.isAgg4
 z4:=Tryz.sizeOf4
 v4:=Tryz.zeroValue4
 t5:=Tryz.underlying5
 a5:=Tryz.isAgg5
 z5:=Tryz.sizeOf5
 v5:=Tryz.zeroValue5
 t9:=Tryz.underlying9
 a9:=Tryz.isAgg9
 z9:=Tryz.sizeOf9
 v9:=Tryz.zeroValue9
 t21:=Tryz.underlying21
 a21:=Tryz.isAgg21
 z21:=Tryz.sizeOf21
 v21:=Tryz.zeroValue21
 t46:=Tryz.underlying51
 a46:=Tryz.isAgg51
 z46:=Tryz.sizeOf51
 v46:=Tryz.zeroValue51
 t105:=Tryz.underlying457
 a105:=Tryz.isAgg457
 z105:=Tryz.sizeOf457
 v105:=Tryz.zeroValue457
 t116:=Tryz.underlying436
 a116:=Tryz.isAgg436
 z116:=Tryz.sizeOf436
 t117:=Tryz.underlying437
 a117:=Tryz.isAgg437
 z117:=Tryz.sizeOf437
 v117:=Tryz.zeroValue437
 t119:=Tryz.underlying491
 a119:=Tryz.isAgg491
 z119:=Tryz.sizeOf491
 t124:=Tryz.underlying440
 a124:=Tryz.isAgg440
 z124:=Tryz.sizeOf440
 v124:=Tryz.zeroValue440
 t138:=Tryz.underlying493
 a138:=Tryz.isAgg493
 z138:=Tryz.sizeOf493
 v138:=Tryz.zeroValue493
 t139:=Tryz.underlying494
 a139:=Tryz.isAgg494
 z139:=Tryz.sizeOf494
 v139:=Tryz.zeroValue494
 g3:=by kernel_rfl
 g4:=by kernel_rfl}
open Go.RowKit in
theorem Tryz.strings_TrimRight_one (s:ByteArray) (c:UInt8) (hc:c.toNat < 128) (w:World) (hs:s.size≤9223372036854775807):
 Calls Tryz.prog 304 #[.string s,.string ⟨#[c]⟩] w fun e w'=>e= .returned (.string ⟨(Lib.trimRightB s.data.toList c).toArray⟩)∧w'=w:=Any.strings_TrimRight_one Tryz.lays162 s c hc w hs
def Tryz.lays125_ren:Go.Shelf.Ren:=⟨fun |125=>361 |128=>398 |129=>200 |n=>n,fun |46=>51 |3=>3 |51=>44 |53=>22 |4=>4 |5=>5 |9=>9 |n=>n,fun |n=>n⟩
def Tryz.lays134_ren:Go.Shelf.Ren:=⟨fun |134=>136 |129=>200 |n=>n,fun |53=>22 |3=>3 |4=>4 |46=>51 |5=>5 |9=>9 |n=>n,fun |n=>n⟩
theorem Tryz.lays134:Go.Proofs.Lays.n134 Tryz.prog Tryz.lays134_ren:={
 mixed:=by kernel_rfl
 f129:=Tryz.func200.trans (congrArg some (by kernel_rfl))
 f134:=Tryz.func136.trans (congrArg some (by kernel_rfl))
 t3:=Tryz.underlying3
 a3:=Tryz.isAgg3
 z3:=Tryz.sizeOf3
 v3:=Tryz.zeroValue3
 t4:=Tryz.underlying4
 a4:=Tryz.isAgg4
 z4:=Tryz.sizeOf4
 v4:=Tryz.zeroValue4
 t5:=Tryz.underlying5
 a5:=Tryz.isAgg5
 z5:=Tryz.sizeOf5
 v5:=Tryz.zeroValue5
 t9:=Tryz.underlying9
 a9:=Tryz.isAgg9
 z9:=Tryz.sizeOf9
 v9:=Tryz.zeroValue9
 t46:=Tryz.underlying51
 a46:=Tryz.isAgg51
 z46:=Tryz.sizeOf51
 v46:=Tryz.zeroValue51
 t53:=Tryz.underlying22
 a53:=Tryz.isAgg22
 z53:=Tryz.sizeOf22
 v53:=Tryz.zeroValue22}
theorem Tryz.bits_LeadingZeros64 (x:Int) (w:World) (h0:0≤x) (h1:x≤18446744073709551615):
 Calls Tryz.prog 136 #[.int .u64 x] w fun e w'=>e= .returned (.int .i64 (64 - (Lib.bitLen x.toNat:Int)))∧w'=w:=Any.bits_LeadingZeros64 Tryz.lays134 x w h0 h1
def Tryz.lays215_ren:Go.Shelf.Ren:=⟨fun |215=>365 |n=>n,fun |3=>3 |4=>4 |n=>n,fun |n=>n⟩
open Go.RowKit in
def Tryz.lays122_ren:Go.Shelf.Ren:=⟨fun |122=>324 |215=>365 |n=>n,fun |3=>3 |4=>4 |n=>n,fun |n=>n⟩
open Go.RowKit in
def Tryz.lays129_ren:Go.Shelf.Ren:=⟨fun |129=>200 |n=>n,fun |53=>22 |3=>3 |4=>4 |46=>51 |5=>5 |9=>9 |n=>n,fun |n=>n⟩
def Tryz.lays264_ren:Go.Shelf.Ren:=⟨fun |264=>60 |n=>n,fun |53=>22 |46=>51 |n=>n,fun |n=>n⟩
theorem Tryz.lays264:Go.Proofs.Lays.n264 Tryz.prog Tryz.lays264_ren:={
 mixed:=by kernel_rfl
 f264:=Tryz.func60.trans (congrArg some (by kernel_rfl))
 t46:=Tryz.underlying51
 a46:=Tryz.isAgg51
 z46:=Tryz.sizeOf51
 v46:=Tryz.zeroValue51
 t53:=Tryz.underlying22
 a53:=Tryz.isAgg22
 z53:=Tryz.sizeOf22
 v53:=Tryz.zeroValue22}
open Go.RowKit Go.Lib in
theorem Tryz.bits_Mul64 (x y:Nat) (hx:x < 18446744073709551616) (hy:y < 18446744073709551616) (w:World):
 Calls Tryz.prog 60 #[.int .u64 x,.int .u64 y] w fun e w'=>e= .returned (.tuple #[.int .u64 ((x * y / 18446744073709551616:Nat):Int),.int .u64 ((x * y % 18446744073709551616:Nat):Int)])∧w'=w:=Any.bits_Mul64 Tryz.lays264 x y hx hy w
end Go.Proofs
