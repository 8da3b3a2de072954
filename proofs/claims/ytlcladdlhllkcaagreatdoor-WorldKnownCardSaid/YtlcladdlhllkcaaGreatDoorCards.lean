/-
  DERIVED. GIVEN WITH THE SEED: THE CARDS: each row of YtlcladdlhllkcaaGreatDoorRows.lean that lists a variable, with what it lists TIED to the program's text (the seventh form; the later family's looks); each row that meets fmt, with fmt's text TOLD by the authors' own Lean function (tested against real Go, not proved from fmt's source: count such statements apart). THE CARD IS WHAT COUNTS. Prove the row's statement (the work); the ties are given (YtlcladdlhllkcaaGreatDoorTie.lean); close each card by the builder's one call (the guide's Derived/Test/ToyasCard.lean, 'card_holds'). Laid BY PROGRAM, IN A SANDBOX (cutbox-door.mjs). By AI agents, Wed Nov 11 2026. No macro, syntax, notation, axiom, sorry.
-/
import Derived.Test.YtlcladdlhllkcaaGreatDoorRows
import GoSem.ClaimSeven
namespace Go.Proofs.YtlcladdlhllkcaaGreatDoor
namespace Rows

/-- THE TIED CARD OF 'ephemerislaw31.WorldKnown'. -/
def worldKnownCard : Claim7 := { stood := { row := worldKnownRow, standIns := [], harness := (true, "a4645eb8fd7ee213ea83f2d860b3b8a1e252b0656ca3b95ab937caad522a0e4e"), looks := false }, kinds := [], alts := [], laidByText := true, laidKinds := [.data, .widerDeep, .pinned], laidTests := true, laidLooks := .later }
def WorldKnownCardSaid : Prop := Claim7.holds Tryz.pinned (.plain (OpenSpec.ofChange worldKnownSpec)) worldKnownCard

/-- THE SECOND FORM's CARD OF 'ephemerislaw31.WorldKnown'. -/
def worldKnownUptoCard : Claim7 := { stood := { row := worldKnownUptoRow, standIns := [], harness := (true, "a4645eb8fd7ee213ea83f2d860b3b8a1e252b0656ca3b95ab937caad522a0e4e"), looks := false }, kinds := [], alts := [], laidByText := true, laidKinds := [.data, .widerDeep, .pinned], laidTests := true, laidLooks := .later }
def WorldKnownUptoCardSaid : Prop := Claim7.holds Tryz.pinned (.plain (OpenSpec.upto worldKnownSpec)) worldKnownUptoCard
end Rows
end Go.Proofs.YtlcladdlhllkcaaGreatDoor
