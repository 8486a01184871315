/- The walks of three laws, as the frames want them. -/
import Derived.Test.YtjpkglgbcflbnaaWait
import Derived.Test.YtjpkglgbcflbnaaBounds
import Derived.Test.YtjpkglgbcflbnaaOnce
namespace Go.Proofs.Ytjpkglgbcflbnaa
open Go.RowKit

theorem known_join (w : World) : Calls Try.prog 5 #[] w fun e w' => e = .returned (.bool true) ∧ Below w.heap.size w w' := known_any waitSaid w

theorem bounds_law (x0 : Int) (_ : (Lit.int .i64 x0).wf = true) (x1 : Int) (_ : (Lit.int .i64 x1).wf = true) (x2 : Int) (_ : (Lit.int .i64 x2).wf = true) (x3 : Int) (_ : (Lit.int .i64 x3).wf = true) (x4 : Int) (_ : (Lit.int .i64 x4).wf = true) (w : World) :
    Calls Try.prog 6 #[.int .i64 x0, .int .i64 x1, .int .i64 x2, .int .i64 x3, .int .i64 x4] w fun e w' => e = .returned (.bool true) ∧ Below w.heap.size w w' := bounds_any waitSaid x0 x1 x2 x3 x4 w

/-- A slice of integers that came in: nil, or it leads to a row of numbers. -/
def IsRow (k : IntKind) (w : World) (a : Option Addr) (len cap : Nat) (zs : List Int) : Prop :=
  (a = none ∧ len = 0 ∧ cap = 0 ∧ zs = []) ∨
  ∃ x, a = some x ∧ len ≤ cap ∧ cap ≤ maxLen ∧ zs.length = cap ∧ (∀ i, i < zs.length → w.cell? (x.add i) = some (.int k (zs.getD i 0))) ∧ ∀ n ∈ zs, (Lit.int k n).wf = true

theorem cell_lt {w : World} {a : Addr} {v : Value} (h : w.cell? a = some v) : a.block < w.heap.size := by
  refine Decidable.byContradiction fun hn => ?_
  have hh : w.heap[a.block]? = none := Array.getElem?_eq_none (Nat.le_of_not_lt hn)
  unfold World.cell? at h
  rw [hh] at h
  simp at h

theorem IsRow.reads {w : World} {a : Option Addr} {len cap : Nat} {zs : List Int} (h : IsRow .i64 w a len cap zs) : Reads w a len fun i => zs.getD i 0 := by
  intro i hi
  rcases h with ⟨_, h0, _⟩ | ⟨⟨g, o, s⟩, rfl, hl, hm, hz, hcell, _⟩
  · omega
  · rcases s with _ | s
    · have hc := hcell i (by omega)
      have hadd : (⟨g, o, none⟩ : Addr).add i = ⟨g, o + i, none⟩ := by
        unfold Addr.add
        split
        · rename_i e; subst e; rfl
        · rfl
      rw [hadd] at hc
      exact ⟨g, o, rfl, cell_lt hc, hc⟩
    · have hc := hcell 0 (by omega)
      unfold Addr.add World.cell? at hc
      simp at hc
      split at hc <;> simp at hc

theorem once_law (x : Int) (_ : (Lit.int .i64 x).wf = true) (w : World) (a1 : Option Addr) (n1 c1 : Nat) (z1 : List Int) (h1 : IsRow .i64 w a1 n1 c1 z1) (a2 : Option Addr) (n2 c2 : Nat) (z2 : List Int) (h2 : IsRow .i64 w a2 n2 c2 z2) (a3 : Option Addr) (n3 c3 : Nat) (z3 : List Int) (h3 : IsRow .i64 w a3 n3 c3 z3) :
    Calls Try.prog 7 #[.int .i64 x, .slice a1 n1 c1, .slice a2 n2 c2, .slice a3 n3 c3] w fun e w' => e = .returned (.bool true) ∧ Below w.heap.size w w' :=
  once_any waitSaid x a1 n1 c1 _ a2 n2 c2 _ a3 n3 c3 _ w h1.reads h2.reads h3.reads
end Go.Proofs.Ytjpkglgbcflbnaa
