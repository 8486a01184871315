/-
  DERIVED. GIVEN WITH THE SEED: THE CARDS: each row of YtlmnpocifldpmaaGreatDoorRows.lean that lists a variable, with what it lists TIED to the program's text (the seventh form; the later family's looks); each row that meets fmt, with fmt's text TOLD by the authors' own Lean function (tested against real Go, not proved from fmt's source: count such statements apart). THE CARD IS WHAT COUNTS. Prove the row's statement (the work); the ties are given (YtlmnpocifldpmaaGreatDoorTie.lean); close each card by the builder's one call (the guide's Derived/Test/ToyasCard.lean, 'card_holds'). Laid BY PROGRAM, IN A SANDBOX (cutbox-door.mjs). By AI agents, Wed Nov 11 2026. No macro, syntax, notation, axiom, sorry.
-/
import Derived.Test.YtlmnpocifldpmaaGreatDoorRows
import GoSem.ClaimSeven
namespace Go.Proofs.YtlmnpocifldpmaaGreatDoor
namespace Rows

/-- THE TIED CARD OF 'privhouselaw24.SparseCounts'. -/
def sparseCountsCard : Claim7 := { stood := { row := sparseCountsRow, standIns := [], harness := (true, "596117900494027828631e6f5a6a468e7acd616ea772657b6a902c0796c552f1"), looks := true }, kinds := [], alts := [], laidByText := true, laidKinds := [.data, .data, .data, .data, .sentinel, .sentinel, .pinned], laidTests := true, laidLooks := .later }
def SparseCountsCardSaid : Prop := Claim7.holds Tryz.pinned (.plain (OpenSpec.ofChange sparseCountsSpec)) sparseCountsCard

/-- THE TIED CARD OF 'privhouselaw24.SparseShift'. -/
def sparseShiftCard : Claim7 := { stood := { row := sparseShiftRow, standIns := [], harness := (true, "596117900494027828631e6f5a6a468e7acd616ea772657b6a902c0796c552f1"), looks := true }, kinds := [], alts := [], laidByText := true, laidKinds := [.data, .data, .data, .data, .sentinel, .sentinel, .pinned], laidTests := true, laidLooks := .later }
def SparseShiftCardSaid : Prop := Claim7.holds Tryz.pinned (.plain (OpenSpec.ofChange sparseShiftSpec)) sparseShiftCard

/-- THE TIED CARD OF 'privhouselaw24.SparseHalf'. -/
def sparseHalfCard : Claim7 := { stood := { row := sparseHalfRow, standIns := [], harness := (true, "596117900494027828631e6f5a6a468e7acd616ea772657b6a902c0796c552f1"), looks := true }, kinds := [], alts := [], laidByText := true, laidKinds := [.data, .data, .data, .data, .sentinel, .sentinel, .pinned], laidTests := true, laidLooks := .later }
def SparseHalfCardSaid : Prop := Claim7.holds Tryz.pinned (.plain (OpenSpec.ofChange sparseHalfSpec)) sparseHalfCard

/-- THE TIED CARD OF 'privhouselaw24.SparsePrivate'. -/
def sparsePrivateCard : Claim7 := { stood := { row := sparsePrivateRow, standIns := [], harness := (true, "596117900494027828631e6f5a6a468e7acd616ea772657b6a902c0796c552f1"), looks := true }, kinds := [], alts := [], laidByText := true, laidKinds := [.data, .data, .data, .data, .sentinel, .sentinel, .pinned], laidTests := true, laidLooks := .later }
def SparsePrivateCardSaid : Prop := Claim7.holds Tryz.pinned (.plain (OpenSpec.ofChange sparsePrivateSpec)) sparsePrivateCard

/-- THE TIED CARD OF 'privhouselaw24.SparseNames'. -/
def sparseNamesCard : Claim7 := { stood := { row := sparseNamesRow, standIns := [], harness := (true, "596117900494027828631e6f5a6a468e7acd616ea772657b6a902c0796c552f1"), looks := true }, kinds := [], alts := [], laidByText := true, laidKinds := [.data, .data, .data, .data, .sentinel, .sentinel, .pinned], laidTests := true, laidLooks := .later }
def SparseNamesCardSaid : Prop := Claim7.holds Tryz.pinned (.plain (OpenSpec.ofChange sparseNamesSpec)) sparseNamesCard

/-- THE TIED CARD OF 'privhouselaw24.SparseCalls'. -/
def sparseCallsCard : Claim7 := { stood := { row := sparseCallsRow, standIns := [], harness := (true, "596117900494027828631e6f5a6a468e7acd616ea772657b6a902c0796c552f1"), looks := true }, kinds := [], alts := [], laidByText := true, laidKinds := [.data, .data, .data, .data, .sentinel, .sentinel, .pinned], laidTests := true, laidLooks := .later }
def SparseCallsCardSaid : Prop := Claim7.holds Tryz.pinned (.plain (OpenSpec.ofChange sparseCallsSpec)) sparseCallsCard

/-- THE SECOND FORM's CARD OF 'privhouselaw24.SparseCounts'. -/
def sparseCountsUptoCard : Claim7 := { stood := { row := sparseCountsUptoRow, standIns := [], harness := (true, "596117900494027828631e6f5a6a468e7acd616ea772657b6a902c0796c552f1"), looks := true }, kinds := [], alts := [], laidByText := true, laidKinds := [.data, .data, .data, .data, .sentinel, .sentinel, .pinned], laidTests := true, laidLooks := .later }
def SparseCountsUptoCardSaid : Prop := Claim7.holds Tryz.pinned (.plain (OpenSpec.upto sparseCountsSpec)) sparseCountsUptoCard

/-- THE SECOND FORM's CARD OF 'privhouselaw24.SparseShift'. -/
def sparseShiftUptoCard : Claim7 := { stood := { row := sparseShiftUptoRow, standIns := [], harness := (true, "596117900494027828631e6f5a6a468e7acd616ea772657b6a902c0796c552f1"), looks := true }, kinds := [], alts := [], laidByText := true, laidKinds := [.data, .data, .data, .data, .sentinel, .sentinel, .pinned], laidTests := true, laidLooks := .later }
def SparseShiftUptoCardSaid : Prop := Claim7.holds Tryz.pinned (.plain (OpenSpec.upto sparseShiftSpec)) sparseShiftUptoCard

/-- THE SECOND FORM's CARD OF 'privhouselaw24.SparseHalf'. -/
def sparseHalfUptoCard : Claim7 := { stood := { row := sparseHalfUptoRow, standIns := [], harness := (true, "596117900494027828631e6f5a6a468e7acd616ea772657b6a902c0796c552f1"), looks := true }, kinds := [], alts := [], laidByText := true, laidKinds := [.data, .data, .data, .data, .sentinel, .sentinel, .pinned], laidTests := true, laidLooks := .later }
def SparseHalfUptoCardSaid : Prop := Claim7.holds Tryz.pinned (.plain (OpenSpec.upto sparseHalfSpec)) sparseHalfUptoCard

/-- THE SECOND FORM's CARD OF 'privhouselaw24.SparsePrivate'. -/
def sparsePrivateUptoCard : Claim7 := { stood := { row := sparsePrivateUptoRow, standIns := [], harness := (true, "596117900494027828631e6f5a6a468e7acd616ea772657b6a902c0796c552f1"), looks := true }, kinds := [], alts := [], laidByText := true, laidKinds := [.data, .data, .data, .data, .sentinel, .sentinel, .pinned], laidTests := true, laidLooks := .later }
def SparsePrivateUptoCardSaid : Prop := Claim7.holds Tryz.pinned (.plain (OpenSpec.upto sparsePrivateSpec)) sparsePrivateUptoCard

/-- THE SECOND FORM's CARD OF 'privhouselaw24.SparseNames'. -/
def sparseNamesUptoCard : Claim7 := { stood := { row := sparseNamesUptoRow, standIns := [], harness := (true, "596117900494027828631e6f5a6a468e7acd616ea772657b6a902c0796c552f1"), looks := true }, kinds := [], alts := [], laidByText := true, laidKinds := [.data, .data, .data, .data, .sentinel, .sentinel, .pinned], laidTests := true, laidLooks := .later }
def SparseNamesUptoCardSaid : Prop := Claim7.holds Tryz.pinned (.plain (OpenSpec.upto sparseNamesSpec)) sparseNamesUptoCard

/-- THE SECOND FORM's CARD OF 'privhouselaw24.SparseCalls'. -/
def sparseCallsUptoCard : Claim7 := { stood := { row := sparseCallsUptoRow, standIns := [], harness := (true, "596117900494027828631e6f5a6a468e7acd616ea772657b6a902c0796c552f1"), looks := true }, kinds := [], alts := [], laidByText := true, laidKinds := [.data, .data, .data, .data, .sentinel, .sentinel, .pinned], laidTests := true, laidLooks := .later }
def SparseCallsUptoCardSaid : Prop := Claim7.holds Tryz.pinned (.plain (OpenSpec.upto sparseCallsSpec)) sparseCallsUptoCard
end Rows
end Go.Proofs.YtlmnpocifldpmaaGreatDoor
