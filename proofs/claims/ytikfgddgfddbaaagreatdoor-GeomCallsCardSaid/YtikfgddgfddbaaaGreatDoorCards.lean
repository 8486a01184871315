/-
  DERIVED. GIVEN WITH THE SEED: THE CARDS: each row of YtikfgddgfddbaaaGreatDoorRows.lean that lists a variable, with what it lists TIED to the program's text (the seventh form; the later family's looks); each row that meets fmt, with fmt's text TOLD by the authors' own Lean function (tested against real Go, not proved from fmt's source: count such statements apart). THE CARD IS WHAT COUNTS. Prove the row's statement (the work); the ties are given (YtikfgddgfddbaaaGreatDoorTie.lean); close each card by the builder's one call (the guide's Derived/Test/ToyasCard.lean, 'card_holds'). Laid BY PROGRAM, IN A SANDBOX (cutbox-door.mjs). By AI agents, Wed Nov 11 2026. No macro, syntax, notation, axiom, sorry.
-/
import Derived.Test.YtikfgddgfddbaaaGreatDoorRows
import GoSem.ClaimSeven
namespace Go.Proofs.YtikfgddgfddbaaaGreatDoor
namespace Rows

/-- THE TIED CARD OF 'privhouselaw06.GeomCoins'. -/
def geomCoinsCard : Claim7 := { stood := { row := geomCoinsRow, standIns := [], harness := (true, "c8f0f094eecc918b3bd62ae5a3a496f08466bf428be6e553915223276d81306d"), looks := true }, kinds := [], alts := [], laidByText := true, laidKinds := [.data, .data, .data, .data, .sentinel, .sentinel, .pinned], laidTests := true, laidLooks := .later }
def GeomCoinsCardSaid : Prop := Claim7.holds Tryz.pinned (.plain (OpenSpec.ofChange geomCoinsSpec)) geomCoinsCard

/-- THE TIED CARD OF 'privhouselaw06.GeomCalls'. -/
def geomCallsCard : Claim7 := { stood := { row := geomCallsRow, standIns := [], harness := (true, "c8f0f094eecc918b3bd62ae5a3a496f08466bf428be6e553915223276d81306d"), looks := true }, kinds := [], alts := [], laidByText := true, laidKinds := [.data, .data, .data, .data, .sentinel, .sentinel, .pinned], laidTests := true, laidLooks := .later }
def GeomCallsCardSaid : Prop := Claim7.holds Tryz.pinned (.plain (OpenSpec.ofChange geomCallsSpec)) geomCallsCard

/-- THE TIED CARD OF 'privhouselaw06.GeomMass'. -/
def geomMassCard : Claim7 := { stood := { row := geomMassRow, standIns := [], harness := (true, "c8f0f094eecc918b3bd62ae5a3a496f08466bf428be6e553915223276d81306d"), looks := true }, kinds := [], alts := [], laidByText := true, laidKinds := [.data, .data, .data, .data, .sentinel, .sentinel, .pinned], laidTests := true, laidLooks := .later }
def GeomMassCardSaid : Prop := Claim7.holds Tryz.pinned (.plain (OpenSpec.ofChange geomMassSpec)) geomMassCard

/-- THE SECOND FORM's CARD OF 'privhouselaw06.GeomCoins'. -/
def geomCoinsUptoCard : Claim7 := { stood := { row := geomCoinsUptoRow, standIns := [], harness := (true, "c8f0f094eecc918b3bd62ae5a3a496f08466bf428be6e553915223276d81306d"), looks := true }, kinds := [], alts := [], laidByText := true, laidKinds := [.data, .data, .data, .data, .sentinel, .sentinel, .pinned], laidTests := true, laidLooks := .later }
def GeomCoinsUptoCardSaid : Prop := Claim7.holds Tryz.pinned (.plain (OpenSpec.upto geomCoinsSpec)) geomCoinsUptoCard

/-- THE SECOND FORM's CARD OF 'privhouselaw06.GeomCalls'. -/
def geomCallsUptoCard : Claim7 := { stood := { row := geomCallsUptoRow, standIns := [], harness := (true, "c8f0f094eecc918b3bd62ae5a3a496f08466bf428be6e553915223276d81306d"), looks := true }, kinds := [], alts := [], laidByText := true, laidKinds := [.data, .data, .data, .data, .sentinel, .sentinel, .pinned], laidTests := true, laidLooks := .later }
def GeomCallsUptoCardSaid : Prop := Claim7.holds Tryz.pinned (.plain (OpenSpec.upto geomCallsSpec)) geomCallsUptoCard

/-- THE SECOND FORM's CARD OF 'privhouselaw06.GeomMass'. -/
def geomMassUptoCard : Claim7 := { stood := { row := geomMassUptoRow, standIns := [], harness := (true, "c8f0f094eecc918b3bd62ae5a3a496f08466bf428be6e553915223276d81306d"), looks := true }, kinds := [], alts := [], laidByText := true, laidKinds := [.data, .data, .data, .data, .sentinel, .sentinel, .pinned], laidTests := true, laidLooks := .later }
def GeomMassUptoCardSaid : Prop := Claim7.holds Tryz.pinned (.plain (OpenSpec.upto geomMassSpec)) geomMassUptoCard
end Rows
end Go.Proofs.YtikfgddgfddbaaaGreatDoor
