/-
  No cell of these rows narrows 'for every input' (looked for: loops, veiled, ifaces, maps, wideKeys, modest, calm, conditions, laid).
  DERIVED. THE GIVEN ROWS OF THIS SEAT. 6 by the template 'for every input the law returns true; each argument reads behind the call as it read before'; 0 by the template 'total and deterministic' (their statements: YtjpkglgbcflbnaaTotals.lean).
  GIVEN WITH THE SEED: the statements are not yours to turn. If you find one false, say at which input.
  Laid BY PROGRAM, IN A SANDBOX (cutbox-rows.mjs): the forced cells as the released guide's own fill.sh prints them over the translation 6b78254355751f97… (all of the seat's roots in one cut). By AI agents, Wed Nov 11 2026. No macro, syntax, notation, axiom, sorry.
-/
import Derived.Test.YtjpkglgbcflbnaaChecked
import GoSem.Claim
import GoSem.ClaimJoined
import GoSem.ClaimMapViews
import Derived.JoinedTies
import Derived.KernelRfl
namespace Go.Proofs.Ytjpkglgbcflbnaa
/- THE CELL 'sum', in the pinned program and in every row, IS THE sha256 OF THE DUMP (.gsa) THAT YtjpkglgbcflbnaaProg.lean LOADS. Nothing in Lean hashes anything: it is a label: what it is worth is what the hold of that sum in a sandbox is worth. -/
noncomputable def Try.pinned : Pinned := { name := "ytjpkglgbcflbnaa", sum := "6b78254355751f9721d6f7709afdc2e772d0a41e9393d8b5e2d9f426ac57e5af", checked := Try.checked }
namespace Rows
def none {H : Type} : Left H := { results := [], args := [] }

/-- 'privhouselaw35.SchedTimes': WHATEVER THE INPUT: true; the input reads as it did. -/
def schedTimesSpec : ChangeSpec := { name := "schedTimes", fn := fun _ => fun
  | [d1, d2, d3] => { results := [.lit (.bool true)], args := [d1, d2, d3] }
  | _ => none }
def schedTimesRow : OpenClaim := { program := "ytjpkglgbcflbnaa", sum := "6b78254355751f9721d6f7709afdc2e772d0a41e9393d8b5e2d9f426ac57e5af", func := "privhouse/privhouselaw35.SchedTimes", spec := "schedTimes", apart := false }
def SchedTimesSaid : Prop := schedTimesRow.holds Try.pinned (OpenSpec.ofChange schedTimesSpec)

/-- ITS FALSE NEIGHBOUR: 'it returns false'. Refute it at one input. -/
def schedTimesWrong : ChangeSpec := { name := "schedTimes", fn := fun _ => fun
  | [d1, d2, d3] => { results := [.lit (.bool false)], args := [d1, d2, d3] }
  | _ => none }
def SchedTimesWrongFalsely : Prop := schedTimesRow.holds Try.pinned (OpenSpec.ofChange schedTimesWrong)

/-- 'privhouselaw35.SchedNone': WHATEVER THE INPUT: true; the input reads as it did. -/
def schedNoneSpec : ChangeSpec := { name := "schedNone", fn := fun _ => fun
  | [d] => { results := [.lit (.bool true)], args := [d] }
  | _ => none }
def schedNoneRow : OpenClaim := { program := "ytjpkglgbcflbnaa", sum := "6b78254355751f9721d6f7709afdc2e772d0a41e9393d8b5e2d9f426ac57e5af", func := "privhouse/privhouselaw35.SchedNone", spec := "schedNone", unfollowed := true, recurses := true, apart := false }
def SchedNoneSaid : Prop := schedNoneRow.holds Try.pinned (OpenSpec.ofChange schedNoneSpec)

/-- ITS FALSE NEIGHBOUR: 'it returns false'. Refute it at one input. -/
def schedNoneWrong : ChangeSpec := { name := "schedNone", fn := fun _ => fun
  | [d] => { results := [.lit (.bool false)], args := [d] }
  | _ => none }
def SchedNoneWrongFalsely : Prop := schedNoneRow.holds Try.pinned (OpenSpec.ofChange schedNoneWrong)

/-- 'privhouselaw35.SchedKnown': WHATEVER THE INPUT: true; the input reads as it did. -/
def schedKnownSpec : ChangeSpec := { name := "schedKnown", fn := fun _ => fun
  | [] => { results := [.lit (.bool true)], args := [] }
  | _ => none }
def schedKnownRow : OpenClaim := { program := "ytjpkglgbcflbnaa", sum := "6b78254355751f9721d6f7709afdc2e772d0a41e9393d8b5e2d9f426ac57e5af", func := "privhouse/privhouselaw35.SchedKnown", spec := "schedKnown", unfollowed := true, recurses := true, apart := false }
def SchedKnownSaid : Prop := schedKnownRow.holds Try.pinned (OpenSpec.ofChange schedKnownSpec)

/-- ITS FALSE NEIGHBOUR: 'it returns false'. Refute it at one input. -/
def schedKnownWrong : ChangeSpec := { name := "schedKnown", fn := fun _ => fun
  | [] => { results := [.lit (.bool false)], args := [] }
  | _ => none }
def SchedKnownWrongFalsely : Prop := schedKnownRow.holds Try.pinned (OpenSpec.ofChange schedKnownWrong)

/-- 'privhouselaw35.SchedBounds': WHATEVER THE INPUT: true; the input reads as it did. -/
def schedBoundsSpec : ChangeSpec := { name := "schedBounds", fn := fun _ => fun
  | [d1, d2, d3, d4, d5] => { results := [.lit (.bool true)], args := [d1, d2, d3, d4, d5] }
  | _ => none }
def schedBoundsRow : OpenClaim := { program := "ytjpkglgbcflbnaa", sum := "6b78254355751f9721d6f7709afdc2e772d0a41e9393d8b5e2d9f426ac57e5af", func := "privhouse/privhouselaw35.SchedBounds", spec := "schedBounds", unfollowed := true, recurses := true, apart := false }
def SchedBoundsSaid : Prop := schedBoundsRow.holds Try.pinned (OpenSpec.ofChange schedBoundsSpec)

/-- ITS FALSE NEIGHBOUR: 'it returns false'. Refute it at one input. -/
def schedBoundsWrong : ChangeSpec := { name := "schedBounds", fn := fun _ => fun
  | [d1, d2, d3, d4, d5] => { results := [.lit (.bool false)], args := [d1, d2, d3, d4, d5] }
  | _ => none }
def SchedBoundsWrongFalsely : Prop := schedBoundsRow.holds Try.pinned (OpenSpec.ofChange schedBoundsWrong)

/-- 'privhouselaw35.SchedOnce': WHATEVER THE INPUT: true; the input reads as it did. -/
def schedOnceSpec : ChangeSpec := { name := "schedOnce", fn := fun _ => fun
  | [d1, d2, d3, d4] => { results := [.lit (.bool true)], args := [d1, d2, d3, d4] }
  | _ => none }
def schedOnceRow : OpenClaim := { program := "ytjpkglgbcflbnaa", sum := "6b78254355751f9721d6f7709afdc2e772d0a41e9393d8b5e2d9f426ac57e5af", func := "privhouse/privhouselaw35.SchedOnce", spec := "schedOnce", unfollowed := true, recurses := true, apart := false }
def SchedOnceSaid : Prop := schedOnceRow.holds Try.pinned (OpenSpec.ofChange schedOnceSpec)

/-- ITS FALSE NEIGHBOUR: 'it returns false'. Refute it at one input. -/
def schedOnceWrong : ChangeSpec := { name := "schedOnce", fn := fun _ => fun
  | [d1, d2, d3, d4] => { results := [.lit (.bool false)], args := [d1, d2, d3, d4] }
  | _ => none }
def SchedOnceWrongFalsely : Prop := schedOnceRow.holds Try.pinned (OpenSpec.ofChange schedOnceWrong)

/-- 'privhouselaw35.SchedActs': WHATEVER THE INPUT: true; the input reads as it did. -/
def schedActsSpec : ChangeSpec := { name := "schedActs", fn := fun _ => fun
  | [d1, d2] => { results := [.lit (.bool true)], args := [d1, d2] }
  | _ => none }
def schedActsRow : OpenClaim := { program := "ytjpkglgbcflbnaa", sum := "6b78254355751f9721d6f7709afdc2e772d0a41e9393d8b5e2d9f426ac57e5af", func := "privhouse/privhouselaw35.SchedActs", spec := "schedActs", unfollowed := true, recurses := true, apart := false }
def SchedActsSaid : Prop := schedActsRow.holds Try.pinned (OpenSpec.ofChange schedActsSpec)

/-- ITS FALSE NEIGHBOUR: 'it returns false'. Refute it at one input. -/
def schedActsWrong : ChangeSpec := { name := "schedActs", fn := fun _ => fun
  | [d1, d2] => { results := [.lit (.bool false)], args := [d1, d2] }
  | _ => none }
def SchedActsWrongFalsely : Prop := schedActsRow.holds Try.pinned (OpenSpec.ofChange schedActsWrong)

/- THE SECOND FORM. 'bulk': how many values and letters a reading holds, each counted each time it is reached (what is shared counts as often as it is met; a slice's spare places count too). A statement '..UptoSaid' is the law's where the arguments, and the package variables that the reading takes, are together of bulk at most 1048576: NARROWER than '..Said'. Prove '..Said' where nothing that the law and all that it calls make is longer than what came in: it says more and counts as full. Else prove '..UptoSaid'. A law counts once. -/
mutual
def uptoBulk {H : Type} : DataW H → Nat
  | .lit (.string bytes) => bytes.length + 1
  | .lit _ => 1
  | .nil => 1
  | .ptr d => uptoBulk d + 1
  | .slice elems spare => uptoBulkAll elems + uptoBulkAll spare + 1
  | .agg parts => uptoBulkAll parts + 1
  | .iface _ d => uptoBulk d + 1
  | .map entries => uptoBulkEntries entries + 1
  | .held _ => 1
def uptoBulkAll {H : Type} : List (DataW H) → Nat
  | [] => 0
  | d :: r => uptoBulk d + uptoBulkAll r
def uptoBulkEntries {H : Type} : List (Lit × DataW H) → Nat
  | [] => 0
  | x :: r => uptoBulkEntry x + uptoBulkEntries r
def uptoBulkEntry {H : Type} : Lit × DataW H → Nat
  | (.string bytes, d) => bytes.length + uptoBulk d + 1
  | (_, d) => uptoBulk d + 1
 end
def uptoSmall : (H : Type) → List (DataW H) → Bool := fun _ ds => decide (uptoBulkAll ds ≤ 1048576)
def OpenSpec.upto (s : _root_.Go.ChangeSpec) : _root_.Go.OpenSpec := { _root_.Go.OpenSpec.ofChange s with cond := some uptoSmall }

/-- 'privhouselaw35.SchedTimes', WHERE WHAT IT READS IS OF BULK AT MOST 1048576: true; the input reads as it did. -/
def schedTimesUptoRow : OpenClaim := { program := "ytjpkglgbcflbnaa", sum := "6b78254355751f9721d6f7709afdc2e772d0a41e9393d8b5e2d9f426ac57e5af", func := "privhouse/privhouselaw35.SchedTimes", spec := "schedTimes", apart := false, narrowed := true }
def SchedTimesUptoSaid : Prop := schedTimesUptoRow.holds Try.pinned (OpenSpec.upto schedTimesSpec)

/-- 'privhouselaw35.SchedNone', WHERE WHAT IT READS IS OF BULK AT MOST 1048576: true; the input reads as it did. -/
def schedNoneUptoRow : OpenClaim := { program := "ytjpkglgbcflbnaa", sum := "6b78254355751f9721d6f7709afdc2e772d0a41e9393d8b5e2d9f426ac57e5af", func := "privhouse/privhouselaw35.SchedNone", spec := "schedNone", unfollowed := true, recurses := true, apart := false, narrowed := true }
def SchedNoneUptoSaid : Prop := schedNoneUptoRow.holds Try.pinned (OpenSpec.upto schedNoneSpec)

/-- 'privhouselaw35.SchedKnown', WHERE WHAT IT READS IS OF BULK AT MOST 1048576: true; the input reads as it did. -/
def schedKnownUptoRow : OpenClaim := { program := "ytjpkglgbcflbnaa", sum := "6b78254355751f9721d6f7709afdc2e772d0a41e9393d8b5e2d9f426ac57e5af", func := "privhouse/privhouselaw35.SchedKnown", spec := "schedKnown", unfollowed := true, recurses := true, apart := false, narrowed := true }
def SchedKnownUptoSaid : Prop := schedKnownUptoRow.holds Try.pinned (OpenSpec.upto schedKnownSpec)

/-- 'privhouselaw35.SchedBounds', WHERE WHAT IT READS IS OF BULK AT MOST 1048576: true; the input reads as it did. -/
def schedBoundsUptoRow : OpenClaim := { program := "ytjpkglgbcflbnaa", sum := "6b78254355751f9721d6f7709afdc2e772d0a41e9393d8b5e2d9f426ac57e5af", func := "privhouse/privhouselaw35.SchedBounds", spec := "schedBounds", unfollowed := true, recurses := true, apart := false, narrowed := true }
def SchedBoundsUptoSaid : Prop := schedBoundsUptoRow.holds Try.pinned (OpenSpec.upto schedBoundsSpec)

/-- 'privhouselaw35.SchedOnce', WHERE WHAT IT READS IS OF BULK AT MOST 1048576: true; the input reads as it did. -/
def schedOnceUptoRow : OpenClaim := { program := "ytjpkglgbcflbnaa", sum := "6b78254355751f9721d6f7709afdc2e772d0a41e9393d8b5e2d9f426ac57e5af", func := "privhouse/privhouselaw35.SchedOnce", spec := "schedOnce", unfollowed := true, recurses := true, apart := false, narrowed := true }
def SchedOnceUptoSaid : Prop := schedOnceUptoRow.holds Try.pinned (OpenSpec.upto schedOnceSpec)

/-- 'privhouselaw35.SchedActs', WHERE WHAT IT READS IS OF BULK AT MOST 1048576: true; the input reads as it did. -/
def schedActsUptoRow : OpenClaim := { program := "ytjpkglgbcflbnaa", sum := "6b78254355751f9721d6f7709afdc2e772d0a41e9393d8b5e2d9f426ac57e5af", func := "privhouse/privhouselaw35.SchedActs", spec := "schedActs", unfollowed := true, recurses := true, apart := false, narrowed := true }
def SchedActsUptoSaid : Prop := schedActsUptoRow.holds Try.pinned (OpenSpec.upto schedActsSpec)

end Rows
end Go.Proofs.Ytjpkglgbcflbnaa
