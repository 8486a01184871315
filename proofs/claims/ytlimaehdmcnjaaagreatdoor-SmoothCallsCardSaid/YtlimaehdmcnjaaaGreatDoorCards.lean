/-
  DERIVED. GIVEN WITH THE SEED: THE CARDS: each row of YtlimaehdmcnjaaaGreatDoorRows.lean that lists a variable, with what it lists TIED to the program's text (the seventh form; the later family's looks); each row that meets fmt, with fmt's text TOLD by the authors' own Lean function (tested against real Go, not proved from fmt's source: count such statements apart). THE CARD IS WHAT COUNTS. Prove the row's statement (the work); the ties are given (YtlimaehdmcnjaaaGreatDoorTie.lean); close each card by the builder's one call (the guide's Derived/Test/ToyasCard.lean, 'card_holds'). Laid BY PROGRAM, IN A SANDBOX (cutbox-door.mjs). By AI agents, Wed Nov 11 2026. No macro, syntax, notation, axiom, sorry.
-/
import Derived.Test.YtlimaehdmcnjaaaGreatDoorRows
import GoSem.ClaimSeven
namespace Go.Proofs.YtlimaehdmcnjaaaGreatDoor
namespace Rows

/-- THE TIED CARD OF 'privhouselaw29.SmoothSimplex'. -/
def smoothSimplexCard : Claim7 := { stood := { row := smoothSimplexRow, standIns := [], harness := (true, "1961e19a8e7c35180e1c9fac956e364e6bd04f1cfae99e6bdd91160c05bd2f06"), looks := true }, kinds := [], alts := [], laidByText := true, laidKinds := [.data, .data, .data, .data, .sentinel, .sentinel, .pinned], laidTests := true, laidLooks := .later }
def SmoothSimplexCardSaid : Prop := Claim7.holds Tryz.pinned (.plain (OpenSpec.ofChange smoothSimplexSpec)) smoothSimplexCard

/-- THE TIED CARD OF 'privhouselaw29.SmoothMonotone'. -/
def smoothMonotoneCard : Claim7 := { stood := { row := smoothMonotoneRow, standIns := [], harness := (true, "1961e19a8e7c35180e1c9fac956e364e6bd04f1cfae99e6bdd91160c05bd2f06"), looks := true }, kinds := [], alts := [], laidByText := true, laidKinds := [.data, .data, .data, .data, .sentinel, .sentinel, .pinned], laidTests := true, laidLooks := .later }
def SmoothMonotoneCardSaid : Prop := Claim7.holds Tryz.pinned (.plain (OpenSpec.ofChange smoothMonotoneSpec)) smoothMonotoneCard

/-- THE TIED CARD OF 'privhouselaw29.SmoothRound'. -/
def smoothRoundCard : Claim7 := { stood := { row := smoothRoundRow, standIns := [], harness := (true, "1961e19a8e7c35180e1c9fac956e364e6bd04f1cfae99e6bdd91160c05bd2f06"), looks := true }, kinds := [], alts := [], laidByText := true, laidKinds := [.data, .data, .data, .data, .sentinel, .sentinel, .pinned], laidTests := true, laidLooks := .later }
def SmoothRoundCardSaid : Prop := Claim7.holds Tryz.pinned (.plain (OpenSpec.ofChange smoothRoundSpec)) smoothRoundCard

/-- THE TIED CARD OF 'privhouselaw29.SmoothNames'. -/
def smoothNamesCard : Claim7 := { stood := { row := smoothNamesRow, standIns := [], harness := (true, "1961e19a8e7c35180e1c9fac956e364e6bd04f1cfae99e6bdd91160c05bd2f06"), looks := true }, kinds := [], alts := [], laidByText := true, laidKinds := [.data, .data, .data, .data, .sentinel, .sentinel, .pinned], laidTests := true, laidLooks := .later }
def SmoothNamesCardSaid : Prop := Claim7.holds Tryz.pinned (.plain (OpenSpec.ofChange smoothNamesSpec)) smoothNamesCard

/-- THE TIED CARD OF 'privhouselaw29.SmoothCalls'. -/
def smoothCallsCard : Claim7 := { stood := { row := smoothCallsRow, standIns := [], harness := (true, "1961e19a8e7c35180e1c9fac956e364e6bd04f1cfae99e6bdd91160c05bd2f06"), looks := true }, kinds := [], alts := [], laidByText := true, laidKinds := [.data, .data, .data, .data, .sentinel, .sentinel, .pinned], laidTests := true, laidLooks := .later }
def SmoothCallsCardSaid : Prop := Claim7.holds Tryz.pinned (.plain (OpenSpec.ofChange smoothCallsSpec)) smoothCallsCard

/-- THE TIED CARD OF 'privhouselaw29.SmoothTotal'. -/
def smoothTotalCard : Claim7 := { stood := { row := smoothTotalRow, standIns := [], harness := (true, "1961e19a8e7c35180e1c9fac956e364e6bd04f1cfae99e6bdd91160c05bd2f06"), looks := true }, kinds := [], alts := [], laidByText := true, laidKinds := [.data, .data, .data, .data, .sentinel, .sentinel, .pinned], laidTests := true, laidLooks := .later }
def SmoothTotalCardSaid : Prop := Claim7.holds Tryz.pinned (.plain (OpenSpec.ofChange smoothTotalSpec)) smoothTotalCard

/-- THE SECOND FORM's CARD OF 'privhouselaw29.SmoothSimplex'. -/
def smoothSimplexUptoCard : Claim7 := { stood := { row := smoothSimplexUptoRow, standIns := [], harness := (true, "1961e19a8e7c35180e1c9fac956e364e6bd04f1cfae99e6bdd91160c05bd2f06"), looks := true }, kinds := [], alts := [], laidByText := true, laidKinds := [.data, .data, .data, .data, .sentinel, .sentinel, .pinned], laidTests := true, laidLooks := .later }
def SmoothSimplexUptoCardSaid : Prop := Claim7.holds Tryz.pinned (.plain (OpenSpec.upto smoothSimplexSpec)) smoothSimplexUptoCard

/-- THE SECOND FORM's CARD OF 'privhouselaw29.SmoothMonotone'. -/
def smoothMonotoneUptoCard : Claim7 := { stood := { row := smoothMonotoneUptoRow, standIns := [], harness := (true, "1961e19a8e7c35180e1c9fac956e364e6bd04f1cfae99e6bdd91160c05bd2f06"), looks := true }, kinds := [], alts := [], laidByText := true, laidKinds := [.data, .data, .data, .data, .sentinel, .sentinel, .pinned], laidTests := true, laidLooks := .later }
def SmoothMonotoneUptoCardSaid : Prop := Claim7.holds Tryz.pinned (.plain (OpenSpec.upto smoothMonotoneSpec)) smoothMonotoneUptoCard

/-- THE SECOND FORM's CARD OF 'privhouselaw29.SmoothRound'. -/
def smoothRoundUptoCard : Claim7 := { stood := { row := smoothRoundUptoRow, standIns := [], harness := (true, "1961e19a8e7c35180e1c9fac956e364e6bd04f1cfae99e6bdd91160c05bd2f06"), looks := true }, kinds := [], alts := [], laidByText := true, laidKinds := [.data, .data, .data, .data, .sentinel, .sentinel, .pinned], laidTests := true, laidLooks := .later }
def SmoothRoundUptoCardSaid : Prop := Claim7.holds Tryz.pinned (.plain (OpenSpec.upto smoothRoundSpec)) smoothRoundUptoCard

/-- THE SECOND FORM's CARD OF 'privhouselaw29.SmoothNames'. -/
def smoothNamesUptoCard : Claim7 := { stood := { row := smoothNamesUptoRow, standIns := [], harness := (true, "1961e19a8e7c35180e1c9fac956e364e6bd04f1cfae99e6bdd91160c05bd2f06"), looks := true }, kinds := [], alts := [], laidByText := true, laidKinds := [.data, .data, .data, .data, .sentinel, .sentinel, .pinned], laidTests := true, laidLooks := .later }
def SmoothNamesUptoCardSaid : Prop := Claim7.holds Tryz.pinned (.plain (OpenSpec.upto smoothNamesSpec)) smoothNamesUptoCard

/-- THE SECOND FORM's CARD OF 'privhouselaw29.SmoothCalls'. -/
def smoothCallsUptoCard : Claim7 := { stood := { row := smoothCallsUptoRow, standIns := [], harness := (true, "1961e19a8e7c35180e1c9fac956e364e6bd04f1cfae99e6bdd91160c05bd2f06"), looks := true }, kinds := [], alts := [], laidByText := true, laidKinds := [.data, .data, .data, .data, .sentinel, .sentinel, .pinned], laidTests := true, laidLooks := .later }
def SmoothCallsUptoCardSaid : Prop := Claim7.holds Tryz.pinned (.plain (OpenSpec.upto smoothCallsSpec)) smoothCallsUptoCard

/-- THE SECOND FORM's CARD OF 'privhouselaw29.SmoothTotal'. -/
def smoothTotalUptoCard : Claim7 := { stood := { row := smoothTotalUptoRow, standIns := [], harness := (true, "1961e19a8e7c35180e1c9fac956e364e6bd04f1cfae99e6bdd91160c05bd2f06"), looks := true }, kinds := [], alts := [], laidByText := true, laidKinds := [.data, .data, .data, .data, .sentinel, .sentinel, .pinned], laidTests := true, laidLooks := .later }
def SmoothTotalUptoCardSaid : Prop := Claim7.holds Tryz.pinned (.plain (OpenSpec.upto smoothTotalSpec)) smoothTotalUptoCard
end Rows
end Go.Proofs.YtlimaehdmcnjaaaGreatDoor
