/-
  DERIVED. GIVEN WITH THE SEED: THE CARDS: each row of YtjgcjjbnnlnilaaGreatDoorRows.lean that lists a variable, with what it lists TIED to the program's text (the seventh form; the later family's looks); each row that meets fmt, with fmt's text TOLD by the authors' own Lean function (tested against real Go, not proved from fmt's source: count such statements apart). THE CARD IS WHAT COUNTS. Prove the row's statement (the work); the ties are given (YtjgcjjbnnlnilaaGreatDoorTie.lean); close each card by the builder's one call (the guide's Derived/Test/ToyasCard.lean, 'card_holds'). Laid BY PROGRAM, IN A SANDBOX (cutbox-door.mjs). By AI agents, Wed Nov 11 2026. No macro, syntax, notation, axiom, sorry.
-/
import Derived.Test.YtjgcjjbnnlnilaaGreatDoorRows
import GoSem.ClaimSeven
namespace Go.Proofs.YtjgcjjbnnlnilaaGreatDoor
namespace Rows

/-- THE TIED CARD OF 'privhouselaw05.PickScaled'. -/
def pickScaledCard : Claim7 := { stood := { row := pickScaledRow, standIns := [], harness := (true, "6ec4367dab8bbe15fb614364df49a9a1f807ed0d3c8cba45be13bb769f06f2c1"), looks := true }, kinds := [], alts := [], laidByText := true, laidKinds := [.data, .data, .data, .data, .sentinel, .sentinel, .pinned], laidTests := true, laidLooks := .later }
def PickScaledCardSaid : Prop := Claim7.holds Tryz.pinned (.plain (OpenSpec.ofChange pickScaledSpec)) pickScaledCard

/-- THE TIED CARD OF 'privhouselaw05.PickCounts'. -/
def pickCountsCard : Claim7 := { stood := { row := pickCountsRow, standIns := [], harness := (true, "6ec4367dab8bbe15fb614364df49a9a1f807ed0d3c8cba45be13bb769f06f2c1"), looks := true }, kinds := [], alts := [], laidByText := true, laidKinds := [.data, .data, .data, .data, .sentinel, .sentinel, .pinned], laidTests := true, laidLooks := .later }
def PickCountsCardSaid : Prop := Claim7.holds Tryz.pinned (.plain (OpenSpec.ofChange pickCountsSpec)) pickCountsCard

/-- THE TIED CARD OF 'privhouselaw05.PickNear'. -/
def pickNearCard : Claim7 := { stood := { row := pickNearRow, standIns := [], harness := (true, "6ec4367dab8bbe15fb614364df49a9a1f807ed0d3c8cba45be13bb769f06f2c1"), looks := true }, kinds := [], alts := [], laidByText := true, laidKinds := [.data, .data, .data, .data, .sentinel, .sentinel, .pinned], laidTests := true, laidLooks := .later }
def PickNearCardSaid : Prop := Claim7.holds Tryz.pinned (.plain (OpenSpec.ofChange pickNearSpec)) pickNearCard

/-- THE TIED CARD OF 'privhouselaw05.PickNames'. -/
def pickNamesCard : Claim7 := { stood := { row := pickNamesRow, standIns := [], harness := (true, "6ec4367dab8bbe15fb614364df49a9a1f807ed0d3c8cba45be13bb769f06f2c1"), looks := true }, kinds := [], alts := [], laidByText := true, laidKinds := [.data, .data, .data, .data, .sentinel, .sentinel, .pinned], laidTests := true, laidLooks := .later }
def PickNamesCardSaid : Prop := Claim7.holds Tryz.pinned (.plain (OpenSpec.ofChange pickNamesSpec)) pickNamesCard

/-- THE TIED CARD OF 'privhouselaw05.PickCalls'. -/
def pickCallsCard : Claim7 := { stood := { row := pickCallsRow, standIns := [], harness := (true, "6ec4367dab8bbe15fb614364df49a9a1f807ed0d3c8cba45be13bb769f06f2c1"), looks := true }, kinds := [], alts := [], laidByText := true, laidKinds := [.data, .data, .data, .data, .sentinel, .sentinel, .pinned], laidTests := true, laidLooks := .later }
def PickCallsCardSaid : Prop := Claim7.holds Tryz.pinned (.plain (OpenSpec.ofChange pickCallsSpec)) pickCallsCard

/-- THE SECOND FORM's CARD OF 'privhouselaw05.PickScaled'. -/
def pickScaledUptoCard : Claim7 := { stood := { row := pickScaledUptoRow, standIns := [], harness := (true, "6ec4367dab8bbe15fb614364df49a9a1f807ed0d3c8cba45be13bb769f06f2c1"), looks := true }, kinds := [], alts := [], laidByText := true, laidKinds := [.data, .data, .data, .data, .sentinel, .sentinel, .pinned], laidTests := true, laidLooks := .later }
def PickScaledUptoCardSaid : Prop := Claim7.holds Tryz.pinned (.plain (OpenSpec.upto pickScaledSpec)) pickScaledUptoCard

/-- THE SECOND FORM's CARD OF 'privhouselaw05.PickCounts'. -/
def pickCountsUptoCard : Claim7 := { stood := { row := pickCountsUptoRow, standIns := [], harness := (true, "6ec4367dab8bbe15fb614364df49a9a1f807ed0d3c8cba45be13bb769f06f2c1"), looks := true }, kinds := [], alts := [], laidByText := true, laidKinds := [.data, .data, .data, .data, .sentinel, .sentinel, .pinned], laidTests := true, laidLooks := .later }
def PickCountsUptoCardSaid : Prop := Claim7.holds Tryz.pinned (.plain (OpenSpec.upto pickCountsSpec)) pickCountsUptoCard

/-- THE SECOND FORM's CARD OF 'privhouselaw05.PickNear'. -/
def pickNearUptoCard : Claim7 := { stood := { row := pickNearUptoRow, standIns := [], harness := (true, "6ec4367dab8bbe15fb614364df49a9a1f807ed0d3c8cba45be13bb769f06f2c1"), looks := true }, kinds := [], alts := [], laidByText := true, laidKinds := [.data, .data, .data, .data, .sentinel, .sentinel, .pinned], laidTests := true, laidLooks := .later }
def PickNearUptoCardSaid : Prop := Claim7.holds Tryz.pinned (.plain (OpenSpec.upto pickNearSpec)) pickNearUptoCard

/-- THE SECOND FORM's CARD OF 'privhouselaw05.PickNames'. -/
def pickNamesUptoCard : Claim7 := { stood := { row := pickNamesUptoRow, standIns := [], harness := (true, "6ec4367dab8bbe15fb614364df49a9a1f807ed0d3c8cba45be13bb769f06f2c1"), looks := true }, kinds := [], alts := [], laidByText := true, laidKinds := [.data, .data, .data, .data, .sentinel, .sentinel, .pinned], laidTests := true, laidLooks := .later }
def PickNamesUptoCardSaid : Prop := Claim7.holds Tryz.pinned (.plain (OpenSpec.upto pickNamesSpec)) pickNamesUptoCard

/-- THE SECOND FORM's CARD OF 'privhouselaw05.PickCalls'. -/
def pickCallsUptoCard : Claim7 := { stood := { row := pickCallsUptoRow, standIns := [], harness := (true, "6ec4367dab8bbe15fb614364df49a9a1f807ed0d3c8cba45be13bb769f06f2c1"), looks := true }, kinds := [], alts := [], laidByText := true, laidKinds := [.data, .data, .data, .data, .sentinel, .sentinel, .pinned], laidTests := true, laidLooks := .later }
def PickCallsUptoCardSaid : Prop := Claim7.holds Tryz.pinned (.plain (OpenSpec.upto pickCallsSpec)) pickCallsUptoCard
end Rows
end Go.Proofs.YtjgcjjbnnlnilaaGreatDoor
