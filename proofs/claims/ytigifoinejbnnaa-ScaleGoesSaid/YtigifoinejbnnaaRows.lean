/-
  No cell of these rows narrows 'for every input' (looked for: loops, veiled, ifaces, maps, wideKeys, modest, calm, conditions, laid).
  DERIVED. THE GIVEN ROWS OF THIS SEAT. 5 by the template 'for every input the law returns true; each argument reads behind the call as it read before'; 0 by the template 'total and deterministic' (their statements: YtigifoinejbnnaaTotals.lean).
  GIVEN WITH THE SEED: the statements are not yours to turn. If you find one false, say at which input.
  Laid BY PROGRAM, IN A SANDBOX (cutbox-rows.mjs): the forced cells as the released guide's own fill.sh prints them over the translation 5393c8e4b391690a… (all of the seat's roots in one cut). By AI agents, Wed Nov 11 2026. No macro, syntax, notation, axiom, sorry.
-/
import Derived.Test.YtigifoinejbnnaaChecked
import GoSem.Claim
import GoSem.ClaimJoined
import GoSem.ClaimMapViews
import Derived.JoinedTies
import Derived.KernelRfl
namespace Go.Proofs.Ytigifoinejbnnaa
/- THE CELL 'sum', in the pinned program and in every row, IS THE sha256 OF THE DUMP (.gsa) THAT YtigifoinejbnnaaProg.lean LOADS. Nothing in Lean hashes anything: it is a label: what it is worth is what the hold of that sum in a sandbox is worth. -/
noncomputable def Try.pinned : Pinned := { name := "ytigifoinejbnnaa", sum := "5393c8e4b391690a57b65c358933d4eaff975c68490e534f4a33c39a2b420b6e", checked := Try.checked }
namespace Rows
def none {H : Type} : Left H := { results := [], args := [] }

/-- 'ephemerislaw10.ScaleSeconds': WHATEVER THE INPUT: true; the input reads as it did. -/
def scaleSecondsSpec : ChangeSpec := { name := "scaleSeconds", fn := fun _ => fun
  | [d1, d2, d3, d4] => { results := [.lit (.bool true)], args := [d1, d2, d3, d4] }
  | _ => none }
def scaleSecondsRow : OpenClaim := { program := "ytigifoinejbnnaa", sum := "5393c8e4b391690a57b65c358933d4eaff975c68490e534f4a33c39a2b420b6e", func := "ephemeris/ephemerislaw10.ScaleSeconds", spec := "scaleSeconds", inPlace := ["math/bits.Add64"], named := ["math/bits.divideError", "math/bits.overflowError"], apart := false }
def ScaleSecondsSaid : Prop := scaleSecondsRow.holds Try.pinned (OpenSpec.ofChange scaleSecondsSpec)

/-- ITS FALSE NEIGHBOUR: 'it returns false'. Refute it at one input. -/
def scaleSecondsWrong : ChangeSpec := { name := "scaleSeconds", fn := fun _ => fun
  | [d1, d2, d3, d4] => { results := [.lit (.bool false)], args := [d1, d2, d3, d4] }
  | _ => none }
def ScaleSecondsWrongFalsely : Prop := scaleSecondsRow.holds Try.pinned (OpenSpec.ofChange scaleSecondsWrong)

/-- 'ephemerislaw10.ScaleTicks': WHATEVER THE INPUT: true; the input reads as it did. -/
def scaleTicksSpec : ChangeSpec := { name := "scaleTicks", fn := fun _ => fun
  | [d1, d2] => { results := [.lit (.bool true)], args := [d1, d2] }
  | _ => none }
def scaleTicksRow : OpenClaim := { program := "ytigifoinejbnnaa", sum := "5393c8e4b391690a57b65c358933d4eaff975c68490e534f4a33c39a2b420b6e", func := "ephemeris/ephemerislaw10.ScaleTicks", spec := "scaleTicks", inPlace := ["math/bits.Add64"], named := ["math/bits.divideError", "math/bits.overflowError"], apart := false }
def ScaleTicksSaid : Prop := scaleTicksRow.holds Try.pinned (OpenSpec.ofChange scaleTicksSpec)

/-- ITS FALSE NEIGHBOUR: 'it returns false'. Refute it at one input. -/
def scaleTicksWrong : ChangeSpec := { name := "scaleTicks", fn := fun _ => fun
  | [d1, d2] => { results := [.lit (.bool false)], args := [d1, d2] }
  | _ => none }
def ScaleTicksWrongFalsely : Prop := scaleTicksRow.holds Try.pinned (OpenSpec.ofChange scaleTicksWrong)

/-- 'ephemerislaw10.ScaleParts': WHATEVER THE INPUT: true; the input reads as it did. -/
def scalePartsSpec : ChangeSpec := { name := "scaleParts", fn := fun _ => fun
  | [d1, d2] => { results := [.lit (.bool true)], args := [d1, d2] }
  | _ => none }
def scalePartsRow : OpenClaim := { program := "ytigifoinejbnnaa", sum := "5393c8e4b391690a57b65c358933d4eaff975c68490e534f4a33c39a2b420b6e", func := "ephemeris/ephemerislaw10.ScaleParts", spec := "scaleParts", inPlace := ["math/bits.Add64"], named := ["math/bits.divideError", "math/bits.overflowError"], apart := false }
def ScalePartsSaid : Prop := scalePartsRow.holds Try.pinned (OpenSpec.ofChange scalePartsSpec)

/-- ITS FALSE NEIGHBOUR: 'it returns false'. Refute it at one input. -/
def scalePartsWrong : ChangeSpec := { name := "scaleParts", fn := fun _ => fun
  | [d1, d2] => { results := [.lit (.bool false)], args := [d1, d2] }
  | _ => none }
def ScalePartsWrongFalsely : Prop := scalePartsRow.holds Try.pinned (OpenSpec.ofChange scalePartsWrong)

/-- 'ephemerislaw10.ScaleGoes': WHATEVER THE INPUT: true; the input reads as it did. -/
def scaleGoesSpec : ChangeSpec := { name := "scaleGoes", fn := fun _ => fun
  | [d1, d2] => { results := [.lit (.bool true)], args := [d1, d2] }
  | _ => none }
def scaleGoesRow : OpenClaim := { program := "ytigifoinejbnnaa", sum := "5393c8e4b391690a57b65c358933d4eaff975c68490e534f4a33c39a2b420b6e", func := "ephemeris/ephemerislaw10.ScaleGoes", spec := "scaleGoes", inPlace := ["math/bits.Add64"], named := ["math/bits.divideError", "math/bits.overflowError"], apart := false }
def ScaleGoesSaid : Prop := scaleGoesRow.holds Try.pinned (OpenSpec.ofChange scaleGoesSpec)

/-- ITS FALSE NEIGHBOUR: 'it returns false'. Refute it at one input. -/
def scaleGoesWrong : ChangeSpec := { name := "scaleGoes", fn := fun _ => fun
  | [d1, d2] => { results := [.lit (.bool false)], args := [d1, d2] }
  | _ => none }
def ScaleGoesWrongFalsely : Prop := scaleGoesRow.holds Try.pinned (OpenSpec.ofChange scaleGoesWrong)

/-- 'ephemerislaw10.ScaleKnown': WHATEVER THE INPUT: true; the input reads as it did. -/
def scaleKnownSpec : ChangeSpec := { name := "scaleKnown", fn := fun _ => fun
  | [] => { results := [.lit (.bool true)], args := [] }
  | _ => none }
def scaleKnownRow : OpenClaim := { program := "ytigifoinejbnnaa", sum := "5393c8e4b391690a57b65c358933d4eaff975c68490e534f4a33c39a2b420b6e", func := "ephemeris/ephemerislaw10.ScaleKnown", spec := "scaleKnown", inPlace := ["math/bits.Add64"], named := ["math/bits.divideError", "math/bits.overflowError"], apart := false }
def ScaleKnownSaid : Prop := scaleKnownRow.holds Try.pinned (OpenSpec.ofChange scaleKnownSpec)

/-- ITS FALSE NEIGHBOUR: 'it returns false'. Refute it at one input. -/
def scaleKnownWrong : ChangeSpec := { name := "scaleKnown", fn := fun _ => fun
  | [] => { results := [.lit (.bool false)], args := [] }
  | _ => none }
def ScaleKnownWrongFalsely : Prop := scaleKnownRow.holds Try.pinned (OpenSpec.ofChange scaleKnownWrong)

/- THE SECOND FORM. 'bulk': how many values and letters a reading holds, each counted each time it is reached (what is shared counts as often as it is met; a slice's spare places count too). A statement '..UptoSaid' is the law's where the arguments, and the package variables that the reading takes, are together of bulk at most 1048576: NARROWER than '..Said'. Prove '..Said' where nothing that the law and all that it calls make is longer than what came in: it says more and counts as full. Else prove '..UptoSaid'. A law counts once. -/
mutual
def uptoBulk {H : Type} : DataW H → Nat
  | .lit (.string bytes) => bytes.length + 1
  | .lit _ => 1
  | .nil => 1
  | .ptr d => uptoBulk d + 1
  | .slice elems spare => uptoBulkAll elems + uptoBulkAll spare + 1
  | .agg parts => uptoBulkAll parts + 1
  | .iface _ d => uptoBulk d + 1
  | .map entries => uptoBulkEntries entries + 1
  | .held _ => 1
def uptoBulkAll {H : Type} : List (DataW H) → Nat
  | [] => 0
  | d :: r => uptoBulk d + uptoBulkAll r
def uptoBulkEntries {H : Type} : List (Lit × DataW H) → Nat
  | [] => 0
  | x :: r => uptoBulkEntry x + uptoBulkEntries r
def uptoBulkEntry {H : Type} : Lit × DataW H → Nat
  | (.string bytes, d) => bytes.length + uptoBulk d + 1
  | (_, d) => uptoBulk d + 1
 end
def uptoSmall : (H : Type) → List (DataW H) → Bool := fun _ ds => decide (uptoBulkAll ds ≤ 1048576)
def OpenSpec.upto (s : _root_.Go.ChangeSpec) : _root_.Go.OpenSpec := { _root_.Go.OpenSpec.ofChange s with cond := some uptoSmall }

/-- 'ephemerislaw10.ScaleSeconds', WHERE WHAT IT READS IS OF BULK AT MOST 1048576: true; the input reads as it did. -/
def scaleSecondsUptoRow : OpenClaim := { program := "ytigifoinejbnnaa", sum := "5393c8e4b391690a57b65c358933d4eaff975c68490e534f4a33c39a2b420b6e", func := "ephemeris/ephemerislaw10.ScaleSeconds", spec := "scaleSeconds", inPlace := ["math/bits.Add64"], named := ["math/bits.divideError", "math/bits.overflowError"], apart := false, narrowed := true }
def ScaleSecondsUptoSaid : Prop := scaleSecondsUptoRow.holds Try.pinned (OpenSpec.upto scaleSecondsSpec)

/-- 'ephemerislaw10.ScaleTicks', WHERE WHAT IT READS IS OF BULK AT MOST 1048576: true; the input reads as it did. -/
def scaleTicksUptoRow : OpenClaim := { program := "ytigifoinejbnnaa", sum := "5393c8e4b391690a57b65c358933d4eaff975c68490e534f4a33c39a2b420b6e", func := "ephemeris/ephemerislaw10.ScaleTicks", spec := "scaleTicks", inPlace := ["math/bits.Add64"], named := ["math/bits.divideError", "math/bits.overflowError"], apart := false, narrowed := true }
def ScaleTicksUptoSaid : Prop := scaleTicksUptoRow.holds Try.pinned (OpenSpec.upto scaleTicksSpec)

/-- 'ephemerislaw10.ScaleParts', WHERE WHAT IT READS IS OF BULK AT MOST 1048576: true; the input reads as it did. -/
def scalePartsUptoRow : OpenClaim := { program := "ytigifoinejbnnaa", sum := "5393c8e4b391690a57b65c358933d4eaff975c68490e534f4a33c39a2b420b6e", func := "ephemeris/ephemerislaw10.ScaleParts", spec := "scaleParts", inPlace := ["math/bits.Add64"], named := ["math/bits.divideError", "math/bits.overflowError"], apart := false, narrowed := true }
def ScalePartsUptoSaid : Prop := scalePartsUptoRow.holds Try.pinned (OpenSpec.upto scalePartsSpec)

/-- 'ephemerislaw10.ScaleGoes', WHERE WHAT IT READS IS OF BULK AT MOST 1048576: true; the input reads as it did. -/
def scaleGoesUptoRow : OpenClaim := { program := "ytigifoinejbnnaa", sum := "5393c8e4b391690a57b65c358933d4eaff975c68490e534f4a33c39a2b420b6e", func := "ephemeris/ephemerislaw10.ScaleGoes", spec := "scaleGoes", inPlace := ["math/bits.Add64"], named := ["math/bits.divideError", "math/bits.overflowError"], apart := false, narrowed := true }
def ScaleGoesUptoSaid : Prop := scaleGoesUptoRow.holds Try.pinned (OpenSpec.upto scaleGoesSpec)

/-- 'ephemerislaw10.ScaleKnown', WHERE WHAT IT READS IS OF BULK AT MOST 1048576: true; the input reads as it did. -/
def scaleKnownUptoRow : OpenClaim := { program := "ytigifoinejbnnaa", sum := "5393c8e4b391690a57b65c358933d4eaff975c68490e534f4a33c39a2b420b6e", func := "ephemeris/ephemerislaw10.ScaleKnown", spec := "scaleKnown", inPlace := ["math/bits.Add64"], named := ["math/bits.divideError", "math/bits.overflowError"], apart := false, narrowed := true }
def ScaleKnownUptoSaid : Prop := scaleKnownUptoRow.holds Try.pinned (OpenSpec.upto scaleKnownSpec)

end Rows
end Go.Proofs.Ytigifoinejbnnaa
