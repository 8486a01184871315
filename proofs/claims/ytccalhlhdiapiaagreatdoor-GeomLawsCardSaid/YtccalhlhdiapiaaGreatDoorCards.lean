/-
  DERIVED. GIVEN WITH THE SEED: THE CARDS: each row of YtccalhlhdiapiaaGreatDoorRows.lean that lists a variable, with what it lists TIED to the program's text (the seventh form; the later family's looks); each row that meets fmt, with fmt's text TOLD by the authors' own Lean function (tested against real Go, not proved from fmt's source: count such statements apart). THE CARD IS WHAT COUNTS. Prove the row's statement (the work); the ties are given (YtccalhlhdiapiaaGreatDoorTie.lean); close each card by the builder's one call (the guide's Derived/Test/ToyasCard.lean, 'card_holds'). Laid BY PROGRAM, IN A SANDBOX (cutbox-door.mjs). By AI agents, Wed Nov 11 2026. No macro, syntax, notation, axiom, sorry.
-/
import Derived.Test.YtccalhlhdiapiaaGreatDoorRows
import GoSem.ClaimSeven
namespace Go.Proofs.YtccalhlhdiapiaaGreatDoor
namespace Rows

/-- THE TIED CARD OF 'privhouselaw06.GeomLaws'. -/
def geomLawsCard : Claim7 := { stood := { row := geomLawsRow, standIns := [], harness := (true, "d70b130d211b5965834b572ef6ce2d4a2806d0eee66e2c3a35786086f2a34fe3"), looks := true }, kinds := [], alts := [], laidByText := true, laidKinds := [.data, .data, .data, .data, .sentinel, .sentinel, .pinned], laidTests := true, laidLooks := .later }
def GeomLawsCardSaid : Prop := Claim7.holds Tryz.pinned (.plain (OpenSpec.ofChange geomLawsSpec)) geomLawsCard

/-- THE TIED CARD OF 'privhouselaw06.GeomCounts'. -/
def geomCountsCard : Claim7 := { stood := { row := geomCountsRow, standIns := [], harness := (true, "d70b130d211b5965834b572ef6ce2d4a2806d0eee66e2c3a35786086f2a34fe3"), looks := true }, kinds := [], alts := [], laidByText := true, laidKinds := [.data, .data, .data, .data, .sentinel, .sentinel, .pinned], laidTests := true, laidLooks := .later }
def GeomCountsCardSaid : Prop := Claim7.holds Tryz.pinned (.plain (OpenSpec.ofChange geomCountsSpec)) geomCountsCard

/-- THE TIED CARD OF 'privhouselaw06.GeomNear'. -/
def geomNearCard : Claim7 := { stood := { row := geomNearRow, standIns := [], harness := (true, "d70b130d211b5965834b572ef6ce2d4a2806d0eee66e2c3a35786086f2a34fe3"), looks := true }, kinds := [], alts := [], laidByText := true, laidKinds := [.data, .data, .data, .data, .sentinel, .sentinel, .pinned], laidTests := true, laidLooks := .later }
def GeomNearCardSaid : Prop := Claim7.holds Tryz.pinned (.plain (OpenSpec.ofChange geomNearSpec)) geomNearCard

/-- THE TIED CARD OF 'privhouselaw06.GeomNames'. -/
def geomNamesCard : Claim7 := { stood := { row := geomNamesRow, standIns := [], harness := (true, "d70b130d211b5965834b572ef6ce2d4a2806d0eee66e2c3a35786086f2a34fe3"), looks := true }, kinds := [], alts := [], laidByText := true, laidKinds := [.data, .data, .data, .data, .sentinel, .sentinel, .pinned], laidTests := true, laidLooks := .later }
def GeomNamesCardSaid : Prop := Claim7.holds Tryz.pinned (.plain (OpenSpec.ofChange geomNamesSpec)) geomNamesCard

/-- THE SECOND FORM's CARD OF 'privhouselaw06.GeomLaws'. -/
def geomLawsUptoCard : Claim7 := { stood := { row := geomLawsUptoRow, standIns := [], harness := (true, "d70b130d211b5965834b572ef6ce2d4a2806d0eee66e2c3a35786086f2a34fe3"), looks := true }, kinds := [], alts := [], laidByText := true, laidKinds := [.data, .data, .data, .data, .sentinel, .sentinel, .pinned], laidTests := true, laidLooks := .later }
def GeomLawsUptoCardSaid : Prop := Claim7.holds Tryz.pinned (.plain (OpenSpec.upto geomLawsSpec)) geomLawsUptoCard

/-- THE SECOND FORM's CARD OF 'privhouselaw06.GeomCounts'. -/
def geomCountsUptoCard : Claim7 := { stood := { row := geomCountsUptoRow, standIns := [], harness := (true, "d70b130d211b5965834b572ef6ce2d4a2806d0eee66e2c3a35786086f2a34fe3"), looks := true }, kinds := [], alts := [], laidByText := true, laidKinds := [.data, .data, .data, .data, .sentinel, .sentinel, .pinned], laidTests := true, laidLooks := .later }
def GeomCountsUptoCardSaid : Prop := Claim7.holds Tryz.pinned (.plain (OpenSpec.upto geomCountsSpec)) geomCountsUptoCard

/-- THE SECOND FORM's CARD OF 'privhouselaw06.GeomNear'. -/
def geomNearUptoCard : Claim7 := { stood := { row := geomNearUptoRow, standIns := [], harness := (true, "d70b130d211b5965834b572ef6ce2d4a2806d0eee66e2c3a35786086f2a34fe3"), looks := true }, kinds := [], alts := [], laidByText := true, laidKinds := [.data, .data, .data, .data, .sentinel, .sentinel, .pinned], laidTests := true, laidLooks := .later }
def GeomNearUptoCardSaid : Prop := Claim7.holds Tryz.pinned (.plain (OpenSpec.upto geomNearSpec)) geomNearUptoCard

/-- THE SECOND FORM's CARD OF 'privhouselaw06.GeomNames'. -/
def geomNamesUptoCard : Claim7 := { stood := { row := geomNamesUptoRow, standIns := [], harness := (true, "d70b130d211b5965834b572ef6ce2d4a2806d0eee66e2c3a35786086f2a34fe3"), looks := true }, kinds := [], alts := [], laidByText := true, laidKinds := [.data, .data, .data, .data, .sentinel, .sentinel, .pinned], laidTests := true, laidLooks := .later }
def GeomNamesUptoCardSaid : Prop := Claim7.holds Tryz.pinned (.plain (OpenSpec.upto geomNamesSpec)) geomNamesUptoCard
end Rows
end Go.Proofs.YtccalhlhdiapiaaGreatDoor
