/-
  DERIVED. GIVEN WITH THE SEED: THE CARDS: each row of YtpehhgkghgbhiaaGreatDoorRows.lean that lists a variable, with what it lists TIED to the program's text (the seventh form; the later family's looks); each row that meets fmt, with fmt's text TOLD by the authors' own Lean function (tested against real Go, not proved from fmt's source: count such statements apart). THE CARD IS WHAT COUNTS. Prove the row's statement (the work); the ties are given (YtpehhgkghgbhiaaGreatDoorTie.lean); close each card by the builder's one call (the guide's Derived/Test/ToyasCard.lean, 'card_holds'). Laid BY PROGRAM, IN A SANDBOX (cutbox-door.mjs). By AI agents, Wed Nov 11 2026. No macro, syntax, notation, axiom, sorry.
-/
import Derived.Test.YtpehhgkghgbhiaaGreatDoorRows
import GoSem.ClaimSeven
namespace Go.Proofs.YtpehhgkghgbhiaaGreatDoor
namespace Rows

/-- THE TIED CARD OF 'privhouselaw22.ChoosePrivate'. -/
def choosePrivateCard : Claim7 := { stood := { row := choosePrivateRow, standIns := [], harness := (true, "792e19bbac6df728af9e501d2f1a83506ec897e01fc01b6e40e4e3b659b01a7f"), looks := true }, kinds := [], alts := [], laidByText := true, laidKinds := [.data, .data, .data, .data, .sentinel, .sentinel, .pinned], laidTests := true, laidLooks := .later }
def ChoosePrivateCardSaid : Prop := Claim7.holds Tryz.pinned (.plain (OpenSpec.ofChange choosePrivateSpec)) choosePrivateCard

/-- THE TIED CARD OF 'privhouselaw22.ChooseOrder'. -/
def chooseOrderCard : Claim7 := { stood := { row := chooseOrderRow, standIns := [], harness := (true, "792e19bbac6df728af9e501d2f1a83506ec897e01fc01b6e40e4e3b659b01a7f"), looks := true }, kinds := [], alts := [], laidByText := true, laidKinds := [.data, .data, .data, .data, .sentinel, .sentinel, .pinned], laidTests := true, laidLooks := .later }
def ChooseOrderCardSaid : Prop := Claim7.holds Tryz.pinned (.plain (OpenSpec.ofChange chooseOrderSpec)) chooseOrderCard

/-- THE TIED CARD OF 'privhouselaw22.ChooseCounts'. -/
def chooseCountsCard : Claim7 := { stood := { row := chooseCountsRow, standIns := [], harness := (true, "792e19bbac6df728af9e501d2f1a83506ec897e01fc01b6e40e4e3b659b01a7f"), looks := true }, kinds := [], alts := [], laidByText := true, laidKinds := [.data, .data, .data, .data, .sentinel, .sentinel, .pinned], laidTests := true, laidLooks := .later }
def ChooseCountsCardSaid : Prop := Claim7.holds Tryz.pinned (.plain (OpenSpec.ofChange chooseCountsSpec)) chooseCountsCard

/-- THE TIED CARD OF 'privhouselaw22.ChooseNames'. -/
def chooseNamesCard : Claim7 := { stood := { row := chooseNamesRow, standIns := [], harness := (true, "792e19bbac6df728af9e501d2f1a83506ec897e01fc01b6e40e4e3b659b01a7f"), looks := true }, kinds := [], alts := [], laidByText := true, laidKinds := [.data, .data, .data, .data, .sentinel, .sentinel, .pinned], laidTests := true, laidLooks := .later }
def ChooseNamesCardSaid : Prop := Claim7.holds Tryz.pinned (.plain (OpenSpec.ofChange chooseNamesSpec)) chooseNamesCard

/-- THE TIED CARD OF 'privhouselaw22.ChooseCalls'. -/
def chooseCallsCard : Claim7 := { stood := { row := chooseCallsRow, standIns := [], harness := (true, "792e19bbac6df728af9e501d2f1a83506ec897e01fc01b6e40e4e3b659b01a7f"), looks := true }, kinds := [], alts := [], laidByText := true, laidKinds := [.data, .data, .data, .data, .sentinel, .sentinel, .pinned], laidTests := true, laidLooks := .later }
def ChooseCallsCardSaid : Prop := Claim7.holds Tryz.pinned (.plain (OpenSpec.ofChange chooseCallsSpec)) chooseCallsCard

/-- THE SECOND FORM's CARD OF 'privhouselaw22.ChoosePrivate'. -/
def choosePrivateUptoCard : Claim7 := { stood := { row := choosePrivateUptoRow, standIns := [], harness := (true, "792e19bbac6df728af9e501d2f1a83506ec897e01fc01b6e40e4e3b659b01a7f"), looks := true }, kinds := [], alts := [], laidByText := true, laidKinds := [.data, .data, .data, .data, .sentinel, .sentinel, .pinned], laidTests := true, laidLooks := .later }
def ChoosePrivateUptoCardSaid : Prop := Claim7.holds Tryz.pinned (.plain (OpenSpec.upto choosePrivateSpec)) choosePrivateUptoCard

/-- THE SECOND FORM's CARD OF 'privhouselaw22.ChooseOrder'. -/
def chooseOrderUptoCard : Claim7 := { stood := { row := chooseOrderUptoRow, standIns := [], harness := (true, "792e19bbac6df728af9e501d2f1a83506ec897e01fc01b6e40e4e3b659b01a7f"), looks := true }, kinds := [], alts := [], laidByText := true, laidKinds := [.data, .data, .data, .data, .sentinel, .sentinel, .pinned], laidTests := true, laidLooks := .later }
def ChooseOrderUptoCardSaid : Prop := Claim7.holds Tryz.pinned (.plain (OpenSpec.upto chooseOrderSpec)) chooseOrderUptoCard

/-- THE SECOND FORM's CARD OF 'privhouselaw22.ChooseCounts'. -/
def chooseCountsUptoCard : Claim7 := { stood := { row := chooseCountsUptoRow, standIns := [], harness := (true, "792e19bbac6df728af9e501d2f1a83506ec897e01fc01b6e40e4e3b659b01a7f"), looks := true }, kinds := [], alts := [], laidByText := true, laidKinds := [.data, .data, .data, .data, .sentinel, .sentinel, .pinned], laidTests := true, laidLooks := .later }
def ChooseCountsUptoCardSaid : Prop := Claim7.holds Tryz.pinned (.plain (OpenSpec.upto chooseCountsSpec)) chooseCountsUptoCard

/-- THE SECOND FORM's CARD OF 'privhouselaw22.ChooseNames'. -/
def chooseNamesUptoCard : Claim7 := { stood := { row := chooseNamesUptoRow, standIns := [], harness := (true, "792e19bbac6df728af9e501d2f1a83506ec897e01fc01b6e40e4e3b659b01a7f"), looks := true }, kinds := [], alts := [], laidByText := true, laidKinds := [.data, .data, .data, .data, .sentinel, .sentinel, .pinned], laidTests := true, laidLooks := .later }
def ChooseNamesUptoCardSaid : Prop := Claim7.holds Tryz.pinned (.plain (OpenSpec.upto chooseNamesSpec)) chooseNamesUptoCard

/-- THE SECOND FORM's CARD OF 'privhouselaw22.ChooseCalls'. -/
def chooseCallsUptoCard : Claim7 := { stood := { row := chooseCallsUptoRow, standIns := [], harness := (true, "792e19bbac6df728af9e501d2f1a83506ec897e01fc01b6e40e4e3b659b01a7f"), looks := true }, kinds := [], alts := [], laidByText := true, laidKinds := [.data, .data, .data, .data, .sentinel, .sentinel, .pinned], laidTests := true, laidLooks := .later }
def ChooseCallsUptoCardSaid : Prop := Claim7.holds Tryz.pinned (.plain (OpenSpec.upto chooseCallsSpec)) chooseCallsUptoCard
end Rows
end Go.Proofs.YtpehhgkghgbhiaaGreatDoor
