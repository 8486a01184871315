/-
  DERIVED. GIVEN WITH THE SEED: THE CARDS: each row of YtckihjfkafdncaaGreatDoorRows.lean that lists a variable, with what it lists TIED to the program's text (the seventh form; the later family's looks); each row that meets fmt, with fmt's text TOLD by the authors' own Lean function (tested against real Go, not proved from fmt's source: count such statements apart). THE CARD IS WHAT COUNTS. Prove the row's statement (the work); the ties are given (YtckihjfkafdncaaGreatDoorTie.lean); close each card by the builder's one call (the guide's Derived/Test/ToyasCard.lean, 'card_holds'). Laid BY PROGRAM, IN A SANDBOX (cutbox-door.mjs). By AI agents, Wed Nov 11 2026. No macro, syntax, notation, axiom, sorry.
-/
import Derived.Test.YtckihjfkafdncaaGreatDoorRows
import GoSem.ClaimSeven
namespace Go.Proofs.YtckihjfkafdncaaGreatDoor
namespace Rows

/-- THE TIED CARD OF 'privhouselaw25.PeakCounts'. -/
def peakCountsCard : Claim7 := { stood := { row := peakCountsRow, standIns := [], harness := (true, "7e608ed474f64f54cb9afb7038d0bd1ab09529610057af4746ba2918bd99f1b3"), looks := true }, kinds := [], alts := [], laidByText := true, laidKinds := [.data, .data, .data, .data, .sentinel, .sentinel, .pinned], laidTests := true, laidLooks := .later }
def PeakCountsCardSaid : Prop := Claim7.holds Tryz.pinned (.plain (OpenSpec.ofChange peakCountsSpec)) peakCountsCard

/-- THE TIED CARD OF 'privhouselaw25.PeakRaised'. -/
def peakRaisedCard : Claim7 := { stood := { row := peakRaisedRow, standIns := [], harness := (true, "7e608ed474f64f54cb9afb7038d0bd1ab09529610057af4746ba2918bd99f1b3"), looks := true }, kinds := [], alts := [], laidByText := true, laidKinds := [.data, .data, .data, .data, .sentinel, .sentinel, .pinned], laidTests := true, laidLooks := .later }
def PeakRaisedCardSaid : Prop := Claim7.holds Tryz.pinned (.plain (OpenSpec.ofChange peakRaisedSpec)) peakRaisedCard

/-- THE TIED CARD OF 'privhouselaw25.PeakPrivate'. -/
def peakPrivateCard : Claim7 := { stood := { row := peakPrivateRow, standIns := [], harness := (true, "7e608ed474f64f54cb9afb7038d0bd1ab09529610057af4746ba2918bd99f1b3"), looks := true }, kinds := [], alts := [], laidByText := true, laidKinds := [.data, .data, .data, .data, .sentinel, .sentinel, .pinned], laidTests := true, laidLooks := .later }
def PeakPrivateCardSaid : Prop := Claim7.holds Tryz.pinned (.plain (OpenSpec.ofChange peakPrivateSpec)) peakPrivateCard

/-- THE TIED CARD OF 'privhouselaw25.PeakNames'. -/
def peakNamesCard : Claim7 := { stood := { row := peakNamesRow, standIns := [], harness := (true, "7e608ed474f64f54cb9afb7038d0bd1ab09529610057af4746ba2918bd99f1b3"), looks := true }, kinds := [], alts := [], laidByText := true, laidKinds := [.data, .data, .data, .data, .sentinel, .sentinel, .pinned], laidTests := true, laidLooks := .later }
def PeakNamesCardSaid : Prop := Claim7.holds Tryz.pinned (.plain (OpenSpec.ofChange peakNamesSpec)) peakNamesCard

/-- THE TIED CARD OF 'privhouselaw25.PeakCalls'. -/
def peakCallsCard : Claim7 := { stood := { row := peakCallsRow, standIns := [], harness := (true, "7e608ed474f64f54cb9afb7038d0bd1ab09529610057af4746ba2918bd99f1b3"), looks := true }, kinds := [], alts := [], laidByText := true, laidKinds := [.data, .data, .data, .data, .sentinel, .sentinel, .pinned], laidTests := true, laidLooks := .later }
def PeakCallsCardSaid : Prop := Claim7.holds Tryz.pinned (.plain (OpenSpec.ofChange peakCallsSpec)) peakCallsCard

/-- THE SECOND FORM's CARD OF 'privhouselaw25.PeakCounts'. -/
def peakCountsUptoCard : Claim7 := { stood := { row := peakCountsUptoRow, standIns := [], harness := (true, "7e608ed474f64f54cb9afb7038d0bd1ab09529610057af4746ba2918bd99f1b3"), looks := true }, kinds := [], alts := [], laidByText := true, laidKinds := [.data, .data, .data, .data, .sentinel, .sentinel, .pinned], laidTests := true, laidLooks := .later }
def PeakCountsUptoCardSaid : Prop := Claim7.holds Tryz.pinned (.plain (OpenSpec.upto peakCountsSpec)) peakCountsUptoCard

/-- THE SECOND FORM's CARD OF 'privhouselaw25.PeakRaised'. -/
def peakRaisedUptoCard : Claim7 := { stood := { row := peakRaisedUptoRow, standIns := [], harness := (true, "7e608ed474f64f54cb9afb7038d0bd1ab09529610057af4746ba2918bd99f1b3"), looks := true }, kinds := [], alts := [], laidByText := true, laidKinds := [.data, .data, .data, .data, .sentinel, .sentinel, .pinned], laidTests := true, laidLooks := .later }
def PeakRaisedUptoCardSaid : Prop := Claim7.holds Tryz.pinned (.plain (OpenSpec.upto peakRaisedSpec)) peakRaisedUptoCard

/-- THE SECOND FORM's CARD OF 'privhouselaw25.PeakPrivate'. -/
def peakPrivateUptoCard : Claim7 := { stood := { row := peakPrivateUptoRow, standIns := [], harness := (true, "7e608ed474f64f54cb9afb7038d0bd1ab09529610057af4746ba2918bd99f1b3"), looks := true }, kinds := [], alts := [], laidByText := true, laidKinds := [.data, .data, .data, .data, .sentinel, .sentinel, .pinned], laidTests := true, laidLooks := .later }
def PeakPrivateUptoCardSaid : Prop := Claim7.holds Tryz.pinned (.plain (OpenSpec.upto peakPrivateSpec)) peakPrivateUptoCard

/-- THE SECOND FORM's CARD OF 'privhouselaw25.PeakNames'. -/
def peakNamesUptoCard : Claim7 := { stood := { row := peakNamesUptoRow, standIns := [], harness := (true, "7e608ed474f64f54cb9afb7038d0bd1ab09529610057af4746ba2918bd99f1b3"), looks := true }, kinds := [], alts := [], laidByText := true, laidKinds := [.data, .data, .data, .data, .sentinel, .sentinel, .pinned], laidTests := true, laidLooks := .later }
def PeakNamesUptoCardSaid : Prop := Claim7.holds Tryz.pinned (.plain (OpenSpec.upto peakNamesSpec)) peakNamesUptoCard

/-- THE SECOND FORM's CARD OF 'privhouselaw25.PeakCalls'. -/
def peakCallsUptoCard : Claim7 := { stood := { row := peakCallsUptoRow, standIns := [], harness := (true, "7e608ed474f64f54cb9afb7038d0bd1ab09529610057af4746ba2918bd99f1b3"), looks := true }, kinds := [], alts := [], laidByText := true, laidKinds := [.data, .data, .data, .data, .sentinel, .sentinel, .pinned], laidTests := true, laidLooks := .later }
def PeakCallsUptoCardSaid : Prop := Claim7.holds Tryz.pinned (.plain (OpenSpec.upto peakCallsSpec)) peakCallsUptoCard
end Rows
end Go.Proofs.YtckihjfkafdncaaGreatDoor
