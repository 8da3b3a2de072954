/-
  DERIVED. GIVEN WITH THE SEED: THE CARDS: each row of YtdohkfgflpdkcaaGreatDoorRows.lean that lists a variable, with what it lists TIED to the program's text (the seventh form; the later family's looks); each row that meets fmt, with fmt's text TOLD by the authors' own Lean function (tested against real Go, not proved from fmt's source: count such statements apart). THE CARD IS WHAT COUNTS. Prove the row's statement (the work); the ties are given (YtdohkfgflpdkcaaGreatDoorTie.lean); close each card by the builder's one call (the guide's Derived/Test/ToyasCard.lean, 'card_holds'). Laid BY PROGRAM, IN A SANDBOX (cutbox-door.mjs). By AI agents, Wed Nov 11 2026. No macro, syntax, notation, axiom, sorry.
-/
import Derived.Test.YtdohkfgflpdkcaaGreatDoorRows
import GoSem.ClaimSeven
namespace Go.Proofs.YtdohkfgflpdkcaaGreatDoor
namespace Rows

/-- THE TIED CARD OF 'ephemerislaw29.DaemonBound'. -/
def daemonBoundCard : Claim7 := { stood := { row := daemonBoundRow, standIns := [], harness := (true, "235fb7f0fe01a77364270aea6f194618739c8fa4bf229f96156af916a0c165df"), looks := true }, kinds := [], alts := [], laidByText := true, laidKinds := [.data, .widerDeep, .pinned], laidTests := true, laidLooks := .later }
def DaemonBoundCardSaid : Prop := Claim7.holds Tryz.pinned (.plain (OpenSpec.ofChange daemonBoundSpec)) daemonBoundCard

/-- THE TIED CARD OF 'ephemerislaw29.DaemonForward'. -/
def daemonForwardCard : Claim7 := { stood := { row := daemonForwardRow, standIns := [], harness := (true, "235fb7f0fe01a77364270aea6f194618739c8fa4bf229f96156af916a0c165df"), looks := true }, kinds := [], alts := [], laidByText := true, laidKinds := [.data, .widerDeep, .pinned], laidTests := true, laidLooks := .later }
def DaemonForwardCardSaid : Prop := Claim7.holds Tryz.pinned (.plain (OpenSpec.ofChange daemonForwardSpec)) daemonForwardCard

/-- THE TIED CARD OF 'ephemerislaw29.DaemonStill'. -/
def daemonStillCard : Claim7 := { stood := { row := daemonStillRow, standIns := [], harness := (true, "235fb7f0fe01a77364270aea6f194618739c8fa4bf229f96156af916a0c165df"), looks := true }, kinds := [], alts := [], laidByText := true, laidKinds := [.data, .widerDeep, .pinned], laidTests := true, laidLooks := .later }
def DaemonStillCardSaid : Prop := Claim7.holds Tryz.pinned (.plain (OpenSpec.ofChange daemonStillSpec)) daemonStillCard

/-- THE TIED CARD OF 'ephemerislaw29.DaemonKnown'. -/
def daemonKnownCard : Claim7 := { stood := { row := daemonKnownRow, standIns := [], harness := (true, "235fb7f0fe01a77364270aea6f194618739c8fa4bf229f96156af916a0c165df"), looks := true }, kinds := [], alts := [], laidByText := true, laidKinds := [.data, .widerDeep, .pinned], laidTests := true, laidLooks := .later }
def DaemonKnownCardSaid : Prop := Claim7.holds Tryz.pinned (.plain (OpenSpec.ofChange daemonKnownSpec)) daemonKnownCard

/-- THE SECOND FORM's CARD OF 'ephemerislaw29.DaemonBound'. -/
def daemonBoundUptoCard : Claim7 := { stood := { row := daemonBoundUptoRow, standIns := [], harness := (true, "235fb7f0fe01a77364270aea6f194618739c8fa4bf229f96156af916a0c165df"), looks := true }, kinds := [], alts := [], laidByText := true, laidKinds := [.data, .widerDeep, .pinned], laidTests := true, laidLooks := .later }
def DaemonBoundUptoCardSaid : Prop := Claim7.holds Tryz.pinned (.plain (OpenSpec.upto daemonBoundSpec)) daemonBoundUptoCard

/-- THE SECOND FORM's CARD OF 'ephemerislaw29.DaemonForward'. -/
def daemonForwardUptoCard : Claim7 := { stood := { row := daemonForwardUptoRow, standIns := [], harness := (true, "235fb7f0fe01a77364270aea6f194618739c8fa4bf229f96156af916a0c165df"), looks := true }, kinds := [], alts := [], laidByText := true, laidKinds := [.data, .widerDeep, .pinned], laidTests := true, laidLooks := .later }
def DaemonForwardUptoCardSaid : Prop := Claim7.holds Tryz.pinned (.plain (OpenSpec.upto daemonForwardSpec)) daemonForwardUptoCard

/-- THE SECOND FORM's CARD OF 'ephemerislaw29.DaemonStill'. -/
def daemonStillUptoCard : Claim7 := { stood := { row := daemonStillUptoRow, standIns := [], harness := (true, "235fb7f0fe01a77364270aea6f194618739c8fa4bf229f96156af916a0c165df"), looks := true }, kinds := [], alts := [], laidByText := true, laidKinds := [.data, .widerDeep, .pinned], laidTests := true, laidLooks := .later }
def DaemonStillUptoCardSaid : Prop := Claim7.holds Tryz.pinned (.plain (OpenSpec.upto daemonStillSpec)) daemonStillUptoCard

/-- THE SECOND FORM's CARD OF 'ephemerislaw29.DaemonKnown'. -/
def daemonKnownUptoCard : Claim7 := { stood := { row := daemonKnownUptoRow, standIns := [], harness := (true, "235fb7f0fe01a77364270aea6f194618739c8fa4bf229f96156af916a0c165df"), looks := true }, kinds := [], alts := [], laidByText := true, laidKinds := [.data, .widerDeep, .pinned], laidTests := true, laidLooks := .later }
def DaemonKnownUptoCardSaid : Prop := Claim7.holds Tryz.pinned (.plain (OpenSpec.upto daemonKnownSpec)) daemonKnownUptoCard
end Rows
end Go.Proofs.YtdohkfgflpdkcaaGreatDoor
