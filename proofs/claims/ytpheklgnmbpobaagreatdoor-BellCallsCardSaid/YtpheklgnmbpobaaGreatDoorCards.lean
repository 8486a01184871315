/-
  DERIVED. GIVEN WITH THE SEED: THE CARDS: each row of YtpheklgnmbpobaaGreatDoorRows.lean that lists a variable, with what it lists TIED to the program's text (the seventh form; the later family's looks); each row that meets fmt, with fmt's text TOLD by the authors' own Lean function (tested against real Go, not proved from fmt's source: count such statements apart). THE CARD IS WHAT COUNTS. Prove the row's statement (the work); the ties are given (YtpheklgnmbpobaaGreatDoorTie.lean); close each card by the builder's one call (the guide's Derived/Test/ToyasCard.lean, 'card_holds'). Laid BY PROGRAM, IN A SANDBOX (cutbox-door.mjs). By AI agents, Wed Nov 11 2026. No macro, syntax, notation, axiom, sorry.
-/
import Derived.Test.YtpheklgnmbpobaaGreatDoorRows
import GoSem.ClaimSeven
namespace Go.Proofs.YtpheklgnmbpobaaGreatDoor
namespace Rows

/-- THE TIED CARD OF 'privhouselaw07.BellEven'. -/
def bellEvenCard : Claim7 := { stood := { row := bellEvenRow, standIns := [], harness := (true, "ff7f57bfe0152e3954279b59b78a176e524c39e33ebdda1f2d8ff17907a69d05"), looks := true }, kinds := [], alts := [], laidByText := true, laidKinds := [.data, .data, .data, .data, .sentinel, .sentinel, .pinned], laidTests := true, laidLooks := .later }
def BellEvenCardSaid : Prop := Claim7.holds Tryz.pinned (.plain (OpenSpec.ofChange bellEvenSpec)) bellEvenCard

/-- THE TIED CARD OF 'privhouselaw07.BellShape'. -/
def bellShapeCard : Claim7 := { stood := { row := bellShapeRow, standIns := [], harness := (true, "ff7f57bfe0152e3954279b59b78a176e524c39e33ebdda1f2d8ff17907a69d05"), looks := true }, kinds := [], alts := [], laidByText := true, laidKinds := [.data, .data, .data, .data, .sentinel, .sentinel, .pinned], laidTests := true, laidLooks := .later }
def BellShapeCardSaid : Prop := Claim7.holds Tryz.pinned (.plain (OpenSpec.ofChange bellShapeSpec)) bellShapeCard

/-- THE TIED CARD OF 'privhouselaw07.BellCounts'. -/
def bellCountsCard : Claim7 := { stood := { row := bellCountsRow, standIns := [], harness := (true, "ff7f57bfe0152e3954279b59b78a176e524c39e33ebdda1f2d8ff17907a69d05"), looks := true }, kinds := [], alts := [], laidByText := true, laidKinds := [.data, .data, .data, .data, .sentinel, .sentinel, .pinned], laidTests := true, laidLooks := .later }
def BellCountsCardSaid : Prop := Claim7.holds Tryz.pinned (.plain (OpenSpec.ofChange bellCountsSpec)) bellCountsCard

/-- THE TIED CARD OF 'privhouselaw07.BellNames'. -/
def bellNamesCard : Claim7 := { stood := { row := bellNamesRow, standIns := [], harness := (true, "ff7f57bfe0152e3954279b59b78a176e524c39e33ebdda1f2d8ff17907a69d05"), looks := true }, kinds := [], alts := [], laidByText := true, laidKinds := [.data, .data, .data, .data, .sentinel, .sentinel, .pinned], laidTests := true, laidLooks := .later }
def BellNamesCardSaid : Prop := Claim7.holds Tryz.pinned (.plain (OpenSpec.ofChange bellNamesSpec)) bellNamesCard

/-- THE TIED CARD OF 'privhouselaw07.BellCalls'. -/
def bellCallsCard : Claim7 := { stood := { row := bellCallsRow, standIns := [], harness := (true, "ff7f57bfe0152e3954279b59b78a176e524c39e33ebdda1f2d8ff17907a69d05"), looks := true }, kinds := [], alts := [], laidByText := true, laidKinds := [.data, .data, .data, .data, .sentinel, .sentinel, .pinned], laidTests := true, laidLooks := .later }
def BellCallsCardSaid : Prop := Claim7.holds Tryz.pinned (.plain (OpenSpec.ofChange bellCallsSpec)) bellCallsCard

/-- THE SECOND FORM's CARD OF 'privhouselaw07.BellEven'. -/
def bellEvenUptoCard : Claim7 := { stood := { row := bellEvenUptoRow, standIns := [], harness := (true, "ff7f57bfe0152e3954279b59b78a176e524c39e33ebdda1f2d8ff17907a69d05"), looks := true }, kinds := [], alts := [], laidByText := true, laidKinds := [.data, .data, .data, .data, .sentinel, .sentinel, .pinned], laidTests := true, laidLooks := .later }
def BellEvenUptoCardSaid : Prop := Claim7.holds Tryz.pinned (.plain (OpenSpec.upto bellEvenSpec)) bellEvenUptoCard

/-- THE SECOND FORM's CARD OF 'privhouselaw07.BellShape'. -/
def bellShapeUptoCard : Claim7 := { stood := { row := bellShapeUptoRow, standIns := [], harness := (true, "ff7f57bfe0152e3954279b59b78a176e524c39e33ebdda1f2d8ff17907a69d05"), looks := true }, kinds := [], alts := [], laidByText := true, laidKinds := [.data, .data, .data, .data, .sentinel, .sentinel, .pinned], laidTests := true, laidLooks := .later }
def BellShapeUptoCardSaid : Prop := Claim7.holds Tryz.pinned (.plain (OpenSpec.upto bellShapeSpec)) bellShapeUptoCard

/-- THE SECOND FORM's CARD OF 'privhouselaw07.BellCounts'. -/
def bellCountsUptoCard : Claim7 := { stood := { row := bellCountsUptoRow, standIns := [], harness := (true, "ff7f57bfe0152e3954279b59b78a176e524c39e33ebdda1f2d8ff17907a69d05"), looks := true }, kinds := [], alts := [], laidByText := true, laidKinds := [.data, .data, .data, .data, .sentinel, .sentinel, .pinned], laidTests := true, laidLooks := .later }
def BellCountsUptoCardSaid : Prop := Claim7.holds Tryz.pinned (.plain (OpenSpec.upto bellCountsSpec)) bellCountsUptoCard

/-- THE SECOND FORM's CARD OF 'privhouselaw07.BellNames'. -/
def bellNamesUptoCard : Claim7 := { stood := { row := bellNamesUptoRow, standIns := [], harness := (true, "ff7f57bfe0152e3954279b59b78a176e524c39e33ebdda1f2d8ff17907a69d05"), looks := true }, kinds := [], alts := [], laidByText := true, laidKinds := [.data, .data, .data, .data, .sentinel, .sentinel, .pinned], laidTests := true, laidLooks := .later }
def BellNamesUptoCardSaid : Prop := Claim7.holds Tryz.pinned (.plain (OpenSpec.upto bellNamesSpec)) bellNamesUptoCard

/-- THE SECOND FORM's CARD OF 'privhouselaw07.BellCalls'. -/
def bellCallsUptoCard : Claim7 := { stood := { row := bellCallsUptoRow, standIns := [], harness := (true, "ff7f57bfe0152e3954279b59b78a176e524c39e33ebdda1f2d8ff17907a69d05"), looks := true }, kinds := [], alts := [], laidByText := true, laidKinds := [.data, .data, .data, .data, .sentinel, .sentinel, .pinned], laidTests := true, laidLooks := .later }
def BellCallsUptoCardSaid : Prop := Claim7.holds Tryz.pinned (.plain (OpenSpec.upto bellCallsSpec)) bellCallsUptoCard
end Rows
end Go.Proofs.YtpheklgnmbpobaaGreatDoor
