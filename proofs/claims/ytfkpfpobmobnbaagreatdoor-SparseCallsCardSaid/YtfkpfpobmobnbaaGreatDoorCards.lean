/-
  DERIVED. GIVEN WITH THE SEED: THE CARDS: each row of YtfkpfpobmobnbaaGreatDoorRows.lean that lists a variable, with what it lists TIED to the program's text (the seventh form; the later family's looks); each row that meets fmt, with fmt's text TOLD by the authors' own Lean function (tested against real Go, not proved from fmt's source: count such statements apart). THE CARD IS WHAT COUNTS. Prove the row's statement (the work); the ties are given (YtfkpfpobmobnbaaGreatDoorTie.lean); close each card by the builder's one call (the guide's Derived/Test/ToyasCard.lean, 'card_holds'). Laid BY PROGRAM, IN A SANDBOX (cutbox-door.mjs). By AI agents, Wed Nov 11 2026. No macro, syntax, notation, axiom, sorry.
-/
import Derived.Test.YtfkpfpobmobnbaaGreatDoorRows
import GoSem.ClaimSeven
namespace Go.Proofs.YtfkpfpobmobnbaaGreatDoor
namespace Rows

/-- THE TIED CARD OF 'privhouselaw21.NoiseCalls'. -/
def noiseCallsCard : Claim7 := { stood := { row := noiseCallsRow, standIns := [], harness := (true, "f17d413e3a1fc9b76acf3f1004a4ca49bbe683782473a32befed3108b4572ea5"), looks := true }, kinds := [], alts := [], laidByText := true, laidKinds := [.data, .data, .data, .data, .sentinel, .sentinel, .pinned], laidTests := true, laidLooks := .later }
def NoiseCallsCardSaid : Prop := Claim7.holds Tryz.pinned (.plain (OpenSpec.ofChange noiseCallsSpec)) noiseCallsCard

/-- THE TIED CARD OF 'privhouselaw25.PeakCalls'. -/
def peakCallsCard : Claim7 := { stood := { row := peakCallsRow, standIns := [], harness := (true, "f17d413e3a1fc9b76acf3f1004a4ca49bbe683782473a32befed3108b4572ea5"), looks := true }, kinds := [], alts := [], laidByText := true, laidKinds := [.data, .data, .data, .data, .sentinel, .sentinel, .pinned], laidTests := true, laidLooks := .later }
def PeakCallsCardSaid : Prop := Claim7.holds Tryz.pinned (.plain (OpenSpec.ofChange peakCallsSpec)) peakCallsCard

/-- THE TIED CARD OF 'privhouselaw24.SparseCalls'. -/
def sparseCallsCard : Claim7 := { stood := { row := sparseCallsRow, standIns := [], harness := (true, "f17d413e3a1fc9b76acf3f1004a4ca49bbe683782473a32befed3108b4572ea5"), looks := true }, kinds := [], alts := [], laidByText := true, laidKinds := [.data, .data, .data, .data, .sentinel, .sentinel, .pinned], laidTests := true, laidLooks := .later }
def SparseCallsCardSaid : Prop := Claim7.holds Tryz.pinned (.plain (OpenSpec.ofChange sparseCallsSpec)) sparseCallsCard

/-- THE SECOND FORM's CARD OF 'privhouselaw21.NoiseCalls'. -/
def noiseCallsUptoCard : Claim7 := { stood := { row := noiseCallsUptoRow, standIns := [], harness := (true, "f17d413e3a1fc9b76acf3f1004a4ca49bbe683782473a32befed3108b4572ea5"), looks := true }, kinds := [], alts := [], laidByText := true, laidKinds := [.data, .data, .data, .data, .sentinel, .sentinel, .pinned], laidTests := true, laidLooks := .later }
def NoiseCallsUptoCardSaid : Prop := Claim7.holds Tryz.pinned (.plain (OpenSpec.upto noiseCallsSpec)) noiseCallsUptoCard

/-- THE SECOND FORM's CARD OF 'privhouselaw25.PeakCalls'. -/
def peakCallsUptoCard : Claim7 := { stood := { row := peakCallsUptoRow, standIns := [], harness := (true, "f17d413e3a1fc9b76acf3f1004a4ca49bbe683782473a32befed3108b4572ea5"), looks := true }, kinds := [], alts := [], laidByText := true, laidKinds := [.data, .data, .data, .data, .sentinel, .sentinel, .pinned], laidTests := true, laidLooks := .later }
def PeakCallsUptoCardSaid : Prop := Claim7.holds Tryz.pinned (.plain (OpenSpec.upto peakCallsSpec)) peakCallsUptoCard

/-- THE SECOND FORM's CARD OF 'privhouselaw24.SparseCalls'. -/
def sparseCallsUptoCard : Claim7 := { stood := { row := sparseCallsUptoRow, standIns := [], harness := (true, "f17d413e3a1fc9b76acf3f1004a4ca49bbe683782473a32befed3108b4572ea5"), looks := true }, kinds := [], alts := [], laidByText := true, laidKinds := [.data, .data, .data, .data, .sentinel, .sentinel, .pinned], laidTests := true, laidLooks := .later }
def SparseCallsUptoCardSaid : Prop := Claim7.holds Tryz.pinned (.plain (OpenSpec.upto sparseCallsSpec)) sparseCallsUptoCard
end Rows
end Go.Proofs.YtfkpfpobmobnbaaGreatDoor
