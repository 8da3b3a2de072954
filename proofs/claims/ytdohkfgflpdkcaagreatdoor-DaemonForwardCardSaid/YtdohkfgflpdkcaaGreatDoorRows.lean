/-
  NARROWER THAN 'FOR EVERY INPUT', by the rows' own cells (each row's printed sentence says how): DaemonBound: laid · DaemonForward: laid · DaemonStill: laid · DaemonKnown: laid.
  DERIVED. THE GIVEN ROWS OF THIS SEAT. 4 by the template 'for every input the law returns true; each argument reads behind the call as it read before'; 0 by the template 'total and deterministic' (their statements: YtdohkfgflpdkcaaGreatDoorTotals.lean).
  GIVEN WITH THE SEED: the statements are not yours to turn. If you find one false, say at which input.
  Laid BY PROGRAM, IN A SANDBOX (cutbox-rows.mjs): the forced cells as the released guide's own fill.sh prints them over the translation 270e4eeab0c0549d… (all of the seat's roots in one cut). By AI agents, Wed Nov 11 2026. No macro, syntax, notation, axiom, sorry.
-/
import Derived.Test.YtdohkfgflpdkcaaGreatDoorChecked
import GoSem.PinnedTables
import GoSem.Claim
import GoSem.ClaimJoined
import GoSem.ClaimMapViews
import Derived.JoinedTies
import Derived.KernelRfl
namespace Go.Proofs.YtdohkfgflpdkcaaGreatDoor
/- THE CELL 'sum', in the pinned program and in every row, IS THE sha256 OF THE DUMP (.gsa) THAT YtdohkfgflpdkcaaGreatDoorProg.lean LOADS. Nothing in Lean hashes anything: it is a label: what it is worth is what the hold of that sum in a sandbox is worth. -/
noncomputable def Tryz.pinned : Pinned := { name := "ytdohkfgflpdkcaagreatdoor", sum := "270e4eeab0c0549d0f6c624032b3145ff7a6f1ad03f7bd2a0eff36d407968983", checked := Tryz.checked }
namespace Rows
def none {H : Type} : Left H := { results := [], args := [] }

/- WHAT THE LISTED PACKAGE-LEVEL VARIABLES READ AS WHEN THE CALL BEGINS. Each datum BY PROGRAM (the guide's laid-datum.mjs) off the statement by which the dump's own 'gosem.cut.vars' lays the variable. In a bare row this is a premise. The card (YtdohkfgflpdkcaaGreatDoorCards.lean) ties it to the program's text. -/
def laid_unicode_utf8_acceptRanges {H : Type} : DataW H := .agg [.agg [.lit (.int .u8 128), .lit (.int .u8 191)], .agg [.lit (.int .u8 160), .lit (.int .u8 191)], .agg [.lit (.int .u8 128), .lit (.int .u8 159)], .agg [.lit (.int .u8 144), .lit (.int .u8 191)], .agg [.lit (.int .u8 128), .lit (.int .u8 143)], .agg [.lit (.int .u8 0), .lit (.int .u8 0)], .agg [.lit (.int .u8 0), .lit (.int .u8 0)], .agg [.lit (.int .u8 0), .lit (.int .u8 0)], .agg [.lit (.int .u8 0), .lit (.int .u8 0)], .agg [.lit (.int .u8 0), .lit (.int .u8 0)], .agg [.lit (.int .u8 0), .lit (.int .u8 0)], .agg [.lit (.int .u8 0), .lit (.int .u8 0)], .agg [.lit (.int .u8 0), .lit (.int .u8 0)], .agg [.lit (.int .u8 0), .lit (.int .u8 0)], .agg [.lit (.int .u8 0), .lit (.int .u8 0)], .agg [.lit (.int .u8 0), .lit (.int .u8 0)]]
def laid_ephemeris_head_sizes {H : Type} : DataW H := .agg [.lit (.int .i64 1), .lit (.int .i64 1), .lit (.int .i64 1), .lit (.int .i64 1), .lit (.int .i64 4), .lit (.int .i64 4), .lit (.int .i64 4), .lit (.int .i64 8), .lit (.int .i64 8), .lit (.int .i64 8), .lit (.int .i64 8)]
/-- One of Go's own tables, pinned by name: the form's constant. -/
def laid_unicode_utf8_first : DataW Unit := Go.Pinned.utf8First

/-- 'ephemerislaw29.DaemonBound': WHATEVER THE INPUT: true; the input reads as it did. -/
def daemonBoundSpec : ChangeSpec := { name := "daemonBound", fn := fun _ => fun
  | [d1, d2, d3] => { results := [.lit (.bool true)], args := [d1, d2, d3] }
  | _ => none }
def daemonBoundRow : OpenClaim := { program := "ytdohkfgflpdkcaagreatdoor", sum := "270e4eeab0c0549d0f6c624032b3145ff7a6f1ad03f7bd2a0eff36d407968983", func := "ephemeris/ephemerislaw29.DaemonBound", spec := "daemonBound", inPlace := ["math/bits.Add64", "internal/bytealg.IndexByteString", "internal/bytealg.IndexString"], unfollowed := true, recurses := true, named := ["math/bits.divideError", "math/bits.overflowError", "ephemeris/head.sizes", "unicode/utf8.first", "unicode/utf8.acceptRanges", "internal/bytealg.MaxLen"], apart := false, laid := [("unicode/utf8.acceptRanges", laid_unicode_utf8_acceptRanges), ("ephemeris/head.sizes", laid_ephemeris_head_sizes), ("unicode/utf8.first", laid_unicode_utf8_first)] }
def DaemonBoundSaid : Prop := daemonBoundRow.holds Tryz.pinned (OpenSpec.ofChange daemonBoundSpec)

/-- ITS FALSE NEIGHBOUR: 'it returns false'. Refute it at one input. -/
def daemonBoundWrong : ChangeSpec := { name := "daemonBound", fn := fun _ => fun
  | [d1, d2, d3] => { results := [.lit (.bool false)], args := [d1, d2, d3] }
  | _ => none }
def DaemonBoundWrongFalsely : Prop := daemonBoundRow.holds Tryz.pinned (OpenSpec.ofChange daemonBoundWrong)

/-- 'ephemerislaw29.DaemonForward': WHATEVER THE INPUT: true; the input reads as it did. -/
def daemonForwardSpec : ChangeSpec := { name := "daemonForward", fn := fun _ => fun
  | [d1, d2, d3] => { results := [.lit (.bool true)], args := [d1, d2, d3] }
  | _ => none }
def daemonForwardRow : OpenClaim := { program := "ytdohkfgflpdkcaagreatdoor", sum := "270e4eeab0c0549d0f6c624032b3145ff7a6f1ad03f7bd2a0eff36d407968983", func := "ephemeris/ephemerislaw29.DaemonForward", spec := "daemonForward", inPlace := ["math/bits.Add64", "internal/bytealg.IndexByteString", "internal/bytealg.IndexString"], unfollowed := true, recurses := true, named := ["math/bits.divideError", "math/bits.overflowError", "ephemeris/head.sizes", "unicode/utf8.first", "unicode/utf8.acceptRanges", "internal/bytealg.MaxLen"], apart := false, laid := [("unicode/utf8.acceptRanges", laid_unicode_utf8_acceptRanges), ("ephemeris/head.sizes", laid_ephemeris_head_sizes), ("unicode/utf8.first", laid_unicode_utf8_first)] }
def DaemonForwardSaid : Prop := daemonForwardRow.holds Tryz.pinned (OpenSpec.ofChange daemonForwardSpec)

/-- ITS FALSE NEIGHBOUR: 'it returns false'. Refute it at one input. -/
def daemonForwardWrong : ChangeSpec := { name := "daemonForward", fn := fun _ => fun
  | [d1, d2, d3] => { results := [.lit (.bool false)], args := [d1, d2, d3] }
  | _ => none }
def DaemonForwardWrongFalsely : Prop := daemonForwardRow.holds Tryz.pinned (OpenSpec.ofChange daemonForwardWrong)

/-- 'ephemerislaw29.DaemonStill': WHATEVER THE INPUT: true; the input reads as it did. -/
def daemonStillSpec : ChangeSpec := { name := "daemonStill", fn := fun _ => fun
  | [d1, d2, d3] => { results := [.lit (.bool true)], args := [d1, d2, d3] }
  | _ => none }
def daemonStillRow : OpenClaim := { program := "ytdohkfgflpdkcaagreatdoor", sum := "270e4eeab0c0549d0f6c624032b3145ff7a6f1ad03f7bd2a0eff36d407968983", func := "ephemeris/ephemerislaw29.DaemonStill", spec := "daemonStill", inPlace := ["math/bits.Add64", "internal/bytealg.IndexByteString", "internal/bytealg.IndexString"], unfollowed := true, recurses := true, named := ["math/bits.divideError", "math/bits.overflowError", "ephemeris/head.sizes", "unicode/utf8.first", "unicode/utf8.acceptRanges", "internal/bytealg.MaxLen"], apart := false, laid := [("unicode/utf8.acceptRanges", laid_unicode_utf8_acceptRanges), ("ephemeris/head.sizes", laid_ephemeris_head_sizes), ("unicode/utf8.first", laid_unicode_utf8_first)] }
def DaemonStillSaid : Prop := daemonStillRow.holds Tryz.pinned (OpenSpec.ofChange daemonStillSpec)

/-- ITS FALSE NEIGHBOUR: 'it returns false'. Refute it at one input. -/
def daemonStillWrong : ChangeSpec := { name := "daemonStill", fn := fun _ => fun
  | [d1, d2, d3] => { results := [.lit (.bool false)], args := [d1, d2, d3] }
  | _ => none }
def DaemonStillWrongFalsely : Prop := daemonStillRow.holds Tryz.pinned (OpenSpec.ofChange daemonStillWrong)

/-- 'ephemerislaw29.DaemonKnown': WHATEVER THE INPUT: true; the input reads as it did. -/
def daemonKnownSpec : ChangeSpec := { name := "daemonKnown", fn := fun _ => fun
  | [] => { results := [.lit (.bool true)], args := [] }
  | _ => none }
def daemonKnownRow : OpenClaim := { program := "ytdohkfgflpdkcaagreatdoor", sum := "270e4eeab0c0549d0f6c624032b3145ff7a6f1ad03f7bd2a0eff36d407968983", func := "ephemeris/ephemerislaw29.DaemonKnown", spec := "daemonKnown", inPlace := ["math/bits.Add64", "internal/bytealg.IndexByteString", "internal/bytealg.IndexString", "maps.clone"], unfollowed := true, recurses := true, named := ["math/bits.divideError", "math/bits.overflowError", "ephemeris/head.sizes", "unicode/utf8.first", "unicode/utf8.acceptRanges", "internal/bytealg.MaxLen"], apart := false, laid := [("unicode/utf8.acceptRanges", laid_unicode_utf8_acceptRanges), ("ephemeris/head.sizes", laid_ephemeris_head_sizes), ("unicode/utf8.first", laid_unicode_utf8_first)] }
def DaemonKnownSaid : Prop := daemonKnownRow.holds Tryz.pinned (OpenSpec.ofChange daemonKnownSpec)

/-- ITS FALSE NEIGHBOUR: 'it returns false'. Refute it at one input. -/
def daemonKnownWrong : ChangeSpec := { name := "daemonKnown", fn := fun _ => fun
  | [] => { results := [.lit (.bool false)], args := [] }
  | _ => none }
def DaemonKnownWrongFalsely : Prop := daemonKnownRow.holds Tryz.pinned (OpenSpec.ofChange daemonKnownWrong)

/- THE SECOND FORM. 'bulk': how many values and letters a reading holds, each counted each time it is reached (what is shared counts as often as it is met; a slice's spare places count too). A statement '..UptoSaid' is the law's where the arguments, and the package variables that the reading takes, are together of bulk at most 1048576: NARROWER than '..Said'. Prove '..Said' where nothing that the law and all that it calls make is longer than what came in: it says more and counts as full. Else prove '..UptoSaid'. A law counts once. -/
mutual
def uptoBulk {H : Type} : DataW H → Nat
  | .lit (.string bytes) => bytes.length + 1
  | .lit _ => 1
  | .nil => 1
  | .ptr d => uptoBulk d + 1
  | .slice elems spare => uptoBulkAll elems + uptoBulkAll spare + 1
  | .agg parts => uptoBulkAll parts + 1
  | .iface _ d => uptoBulk d + 1
  | .map entries => uptoBulkEntries entries + 1
  | .held _ => 1
def uptoBulkAll {H : Type} : List (DataW H) → Nat
  | [] => 0
  | d :: r => uptoBulk d + uptoBulkAll r
def uptoBulkEntries {H : Type} : List (Lit × DataW H) → Nat
  | [] => 0
  | x :: r => uptoBulkEntry x + uptoBulkEntries r
def uptoBulkEntry {H : Type} : Lit × DataW H → Nat
  | (.string bytes, d) => bytes.length + uptoBulk d + 1
  | (_, d) => uptoBulk d + 1
 end
def uptoSmall : (H : Type) → List (DataW H) → Bool := fun _ ds => decide (uptoBulkAll ds ≤ 1048576)
def OpenSpec.upto (s : _root_.Go.ChangeSpec) : _root_.Go.OpenSpec := { _root_.Go.OpenSpec.ofChange s with cond := some uptoSmall }

/-- 'ephemerislaw29.DaemonBound', WHERE WHAT IT READS IS OF BULK AT MOST 1048576: true; the input reads as it did. -/
def daemonBoundUptoRow : OpenClaim := { program := "ytdohkfgflpdkcaagreatdoor", sum := "270e4eeab0c0549d0f6c624032b3145ff7a6f1ad03f7bd2a0eff36d407968983", func := "ephemeris/ephemerislaw29.DaemonBound", spec := "daemonBound", inPlace := ["math/bits.Add64", "internal/bytealg.IndexByteString", "internal/bytealg.IndexString"], unfollowed := true, recurses := true, named := ["math/bits.divideError", "math/bits.overflowError", "ephemeris/head.sizes", "unicode/utf8.first", "unicode/utf8.acceptRanges", "internal/bytealg.MaxLen"], apart := false, laid := [("unicode/utf8.acceptRanges", laid_unicode_utf8_acceptRanges), ("ephemeris/head.sizes", laid_ephemeris_head_sizes), ("unicode/utf8.first", laid_unicode_utf8_first)], narrowed := true }
def DaemonBoundUptoSaid : Prop := daemonBoundUptoRow.holds Tryz.pinned (OpenSpec.upto daemonBoundSpec)

/-- 'ephemerislaw29.DaemonForward', WHERE WHAT IT READS IS OF BULK AT MOST 1048576: true; the input reads as it did. -/
def daemonForwardUptoRow : OpenClaim := { program := "ytdohkfgflpdkcaagreatdoor", sum := "270e4eeab0c0549d0f6c624032b3145ff7a6f1ad03f7bd2a0eff36d407968983", func := "ephemeris/ephemerislaw29.DaemonForward", spec := "daemonForward", inPlace := ["math/bits.Add64", "internal/bytealg.IndexByteString", "internal/bytealg.IndexString"], unfollowed := true, recurses := true, named := ["math/bits.divideError", "math/bits.overflowError", "ephemeris/head.sizes", "unicode/utf8.first", "unicode/utf8.acceptRanges", "internal/bytealg.MaxLen"], apart := false, laid := [("unicode/utf8.acceptRanges", laid_unicode_utf8_acceptRanges), ("ephemeris/head.sizes", laid_ephemeris_head_sizes), ("unicode/utf8.first", laid_unicode_utf8_first)], narrowed := true }
def DaemonForwardUptoSaid : Prop := daemonForwardUptoRow.holds Tryz.pinned (OpenSpec.upto daemonForwardSpec)

/-- 'ephemerislaw29.DaemonStill', WHERE WHAT IT READS IS OF BULK AT MOST 1048576: true; the input reads as it did. -/
def daemonStillUptoRow : OpenClaim := { program := "ytdohkfgflpdkcaagreatdoor", sum := "270e4eeab0c0549d0f6c624032b3145ff7a6f1ad03f7bd2a0eff36d407968983", func := "ephemeris/ephemerislaw29.DaemonStill", spec := "daemonStill", inPlace := ["math/bits.Add64", "internal/bytealg.IndexByteString", "internal/bytealg.IndexString"], unfollowed := true, recurses := true, named := ["math/bits.divideError", "math/bits.overflowError", "ephemeris/head.sizes", "unicode/utf8.first", "unicode/utf8.acceptRanges", "internal/bytealg.MaxLen"], apart := false, laid := [("unicode/utf8.acceptRanges", laid_unicode_utf8_acceptRanges), ("ephemeris/head.sizes", laid_ephemeris_head_sizes), ("unicode/utf8.first", laid_unicode_utf8_first)], narrowed := true }
def DaemonStillUptoSaid : Prop := daemonStillUptoRow.holds Tryz.pinned (OpenSpec.upto daemonStillSpec)

/-- 'ephemerislaw29.DaemonKnown', WHERE WHAT IT READS IS OF BULK AT MOST 1048576: true; the input reads as it did. -/
def daemonKnownUptoRow : OpenClaim := { program := "ytdohkfgflpdkcaagreatdoor", sum := "270e4eeab0c0549d0f6c624032b3145ff7a6f1ad03f7bd2a0eff36d407968983", func := "ephemeris/ephemerislaw29.DaemonKnown", spec := "daemonKnown", inPlace := ["math/bits.Add64", "internal/bytealg.IndexByteString", "internal/bytealg.IndexString", "maps.clone"], unfollowed := true, recurses := true, named := ["math/bits.divideError", "math/bits.overflowError", "ephemeris/head.sizes", "unicode/utf8.first", "unicode/utf8.acceptRanges", "internal/bytealg.MaxLen"], apart := false, laid := [("unicode/utf8.acceptRanges", laid_unicode_utf8_acceptRanges), ("ephemeris/head.sizes", laid_ephemeris_head_sizes), ("unicode/utf8.first", laid_unicode_utf8_first)], narrowed := true }
def DaemonKnownUptoSaid : Prop := daemonKnownUptoRow.holds Tryz.pinned (OpenSpec.upto daemonKnownSpec)

end Rows
end Go.Proofs.YtdohkfgflpdkcaaGreatDoor
