/-
  DERIVED. GIVEN WITH THE SEED: THE CARDS: each row of YtgphopkifomffaaGreatDoorRows.lean that lists a variable, with what it lists TIED to the program's text (the seventh form; the later family's looks); each row that meets fmt, with fmt's text TOLD by the authors' own Lean function (tested against real Go, not proved from fmt's source: count such statements apart). THE CARD IS WHAT COUNTS. Prove the row's statement (the work); the ties are given (YtgphopkifomffaaGreatDoorTie.lean); close each card by the builder's one call (the guide's Derived/Test/ToyasCard.lean, 'card_holds'). Laid BY PROGRAM, IN A SANDBOX (cutbox-door.mjs). By AI agents, Wed Nov 11 2026. No macro, syntax, notation, axiom, sorry.
-/
import Derived.Test.YtgphopkifomffaaGreatDoorRows
import GoSem.ClaimSeven
namespace Go.Proofs.YtgphopkifomffaaGreatDoor
namespace Rows

/-- THE TIED CARD OF 'privhouselaw21.NoiseCounts'. -/
def noiseCountsCard : Claim7 := { stood := { row := noiseCountsRow, standIns := [], harness := (true, "cd9ef8cc906a1f58292ed9fa34b35aa867fd54c3e86da3e1d710f5693157a7ba"), looks := true }, kinds := [], alts := [], laidByText := true, laidKinds := [.data, .data, .data, .data, .sentinel, .sentinel, .pinned], laidTests := true, laidLooks := .later }
def NoiseCountsCardSaid : Prop := Claim7.holds Tryz.pinned (.plain (OpenSpec.ofChange noiseCountsSpec)) noiseCountsCard

/-- THE TIED CARD OF 'privhouselaw21.NoisePrivate'. -/
def noisePrivateCard : Claim7 := { stood := { row := noisePrivateRow, standIns := [], harness := (true, "cd9ef8cc906a1f58292ed9fa34b35aa867fd54c3e86da3e1d710f5693157a7ba"), looks := true }, kinds := [], alts := [], laidByText := true, laidKinds := [.data, .data, .data, .data, .sentinel, .sentinel, .pinned], laidTests := true, laidLooks := .later }
def NoisePrivateCardSaid : Prop := Claim7.holds Tryz.pinned (.plain (OpenSpec.ofChange noisePrivateSpec)) noisePrivateCard

/-- THE TIED CARD OF 'privhouselaw21.NoiseBound'. -/
def noiseBoundCard : Claim7 := { stood := { row := noiseBoundRow, standIns := [], harness := (true, "cd9ef8cc906a1f58292ed9fa34b35aa867fd54c3e86da3e1d710f5693157a7ba"), looks := true }, kinds := [], alts := [], laidByText := true, laidKinds := [.data, .data, .data, .data, .sentinel, .sentinel, .pinned], laidTests := true, laidLooks := .later }
def NoiseBoundCardSaid : Prop := Claim7.holds Tryz.pinned (.plain (OpenSpec.ofChange noiseBoundSpec)) noiseBoundCard

/-- THE TIED CARD OF 'privhouselaw21.NoiseNames'. -/
def noiseNamesCard : Claim7 := { stood := { row := noiseNamesRow, standIns := [], harness := (true, "cd9ef8cc906a1f58292ed9fa34b35aa867fd54c3e86da3e1d710f5693157a7ba"), looks := true }, kinds := [], alts := [], laidByText := true, laidKinds := [.data, .data, .data, .data, .sentinel, .sentinel, .pinned], laidTests := true, laidLooks := .later }
def NoiseNamesCardSaid : Prop := Claim7.holds Tryz.pinned (.plain (OpenSpec.ofChange noiseNamesSpec)) noiseNamesCard

/-- THE SECOND FORM's CARD OF 'privhouselaw21.NoiseCounts'. -/
def noiseCountsUptoCard : Claim7 := { stood := { row := noiseCountsUptoRow, standIns := [], harness := (true, "cd9ef8cc906a1f58292ed9fa34b35aa867fd54c3e86da3e1d710f5693157a7ba"), looks := true }, kinds := [], alts := [], laidByText := true, laidKinds := [.data, .data, .data, .data, .sentinel, .sentinel, .pinned], laidTests := true, laidLooks := .later }
def NoiseCountsUptoCardSaid : Prop := Claim7.holds Tryz.pinned (.plain (OpenSpec.upto noiseCountsSpec)) noiseCountsUptoCard

/-- THE SECOND FORM's CARD OF 'privhouselaw21.NoisePrivate'. -/
def noisePrivateUptoCard : Claim7 := { stood := { row := noisePrivateUptoRow, standIns := [], harness := (true, "cd9ef8cc906a1f58292ed9fa34b35aa867fd54c3e86da3e1d710f5693157a7ba"), looks := true }, kinds := [], alts := [], laidByText := true, laidKinds := [.data, .data, .data, .data, .sentinel, .sentinel, .pinned], laidTests := true, laidLooks := .later }
def NoisePrivateUptoCardSaid : Prop := Claim7.holds Tryz.pinned (.plain (OpenSpec.upto noisePrivateSpec)) noisePrivateUptoCard

/-- THE SECOND FORM's CARD OF 'privhouselaw21.NoiseBound'. -/
def noiseBoundUptoCard : Claim7 := { stood := { row := noiseBoundUptoRow, standIns := [], harness := (true, "cd9ef8cc906a1f58292ed9fa34b35aa867fd54c3e86da3e1d710f5693157a7ba"), looks := true }, kinds := [], alts := [], laidByText := true, laidKinds := [.data, .data, .data, .data, .sentinel, .sentinel, .pinned], laidTests := true, laidLooks := .later }
def NoiseBoundUptoCardSaid : Prop := Claim7.holds Tryz.pinned (.plain (OpenSpec.upto noiseBoundSpec)) noiseBoundUptoCard

/-- THE SECOND FORM's CARD OF 'privhouselaw21.NoiseNames'. -/
def noiseNamesUptoCard : Claim7 := { stood := { row := noiseNamesUptoRow, standIns := [], harness := (true, "cd9ef8cc906a1f58292ed9fa34b35aa867fd54c3e86da3e1d710f5693157a7ba"), looks := true }, kinds := [], alts := [], laidByText := true, laidKinds := [.data, .data, .data, .data, .sentinel, .sentinel, .pinned], laidTests := true, laidLooks := .later }
def NoiseNamesUptoCardSaid : Prop := Claim7.holds Tryz.pinned (.plain (OpenSpec.upto noiseNamesSpec)) noiseNamesUptoCard
end Rows
end Go.Proofs.YtgphopkifomffaaGreatDoor
