/- Walks: the reference's queue: New, Next, Waiting. -/
import Derived.Test.YtjpkglgbcflbnaaJoins
import Derived.Deep.RegionHeld3
import Derived.Deep.DrawnRows
namespace Go.Proofs.Ytjpkglgbcflbnaa
open Go.RowKit

/-- The reference's row: each ticket, then its time. -/
def flatR (l : List Tk) : List Value := flat (l.map fun p => (p.2, p.1))

@[simp] theorem flatR_nil : flatR [] = [] := rfl
@[simp] theorem flatR_length (l : List Tk) : (flatR l).length = l.length * 2 := by simp [flatR]
theorem flatR_append (l k : List Tk) : flatR (l ++ k) = flatR l ++ flatR k := by simp [flatR, flat_append]
theorem flatR_at (l : List Tk) (i : Nat) (p : Tk) (h : l[i]? = some p) : (flatR l)[i * 2]? = some (.int .i64 p.2) ∧ (flatR l)[i * 2 + 1]? = some (.int .i64 p.1) := by
  have := flat_at (l.map fun p : Tk => ((p.2, p.1) : Tk)) i (p.2, p.1) (by simp [h])
  exact this
theorem flatR_one (l : List Tk) : ∀ u ∈ flatR l, u.oneCell' = true := flat_one _

/-- The reference's queue b (its row in block r) has slot s and the waiting tickets l, in order. -/
structure RQ (w : World) (b : Nat) (r : Option Nat) (s : Int) (l : List Tk) : Prop where
  sm : l.length ≤ 900
  ex : ∃ v, Blk w b #[.int .i64 s, v] 71 ∧ w.ownsRow 0 73 2 v l.length (flatR l) ∧ v.ownBlock = r
  ne : r ≠ some b

theorem RQ.call {w w' : World} {b : Nat} {r : Option Nat} {s : Int} {l : List Tk} (h : RQ w b r s l) (hb : Below w.heap.size w w') : RQ w' b r s l := by
  obtain ⟨v, h1, h2, h3⟩ := h.ex
  exact ⟨h.sm, ⟨v, h1.call hb, owns_call h2 hb, h3⟩, h.ne⟩

theorem RQ.lt {w : World} {b : Nat} {r : Option Nat} {s : Int} {l : List Tk} (h : RQ w b r s l) : b < w.heap.size := by
  obtain ⟨v, h1, _⟩ := h.ex; exact h1.lt

theorem RQ.rlt {w : World} {b : Nat} {r : Option Nat} {s : Int} {l : List Tk} (h : RQ w b r s l) : ∀ x, r = some x → x < w.heap.size := by
  obtain ⟨v, _, h2, rfl⟩ := h.ex; exact owns_lt h2

/-- What the cells of a reference's queue hold. -/
theorem RQ.cells {w : World} {b : Nat} {r : Option Nat} {s : Int} {l : List Tk} (h : RQ w b r s l) : w.cell? ⟨b, 0, none⟩ = some (.int .i64 s) ∧ ∃ a c, l.length ≤ c ∧ c ≤ maxLen ∧ w.cell? ⟨b, 1, none⟩ = some (.slice a l.length c) ∧ ∀ i p, l[i]? = some p → ∃ g, a = some ⟨g, 0, none⟩ ∧ g < w.heap.size ∧ w.cell? ⟨g, i * 2, none⟩ = some (.int .i64 p.2) ∧ w.cell? ⟨g, i * 2 + 1, none⟩ = some (.int .i64 p.1) := by
  obtain ⟨v, h1, h2, h3⟩ := h.ex
  have hh := h2
  refine ⟨by rw [h1.cell]; rfl, ?_⟩
  rcases h2.2 with ⟨rfl, h0⟩ | ⟨g, cap, cur, rfl, hb, hg, k1, k2, k3, k4⟩
  · refine ⟨none, 0, by omega, by unfold maxLen; omega, by rw [h1.cell, h0]; rfl, fun i p hi => ?_⟩
    have := (List.getElem?_eq_some_iff.1 hi).1; omega
  · refine ⟨some ⟨g, 0, none⟩, cap, k1, k2, by rw [h1.cell]; rfl, fun i p hi => ?_⟩
    have hlt : i < l.length := (List.getElem?_eq_some_iff.1 hi).1
    have hf := flatR_at l i p hi
    exact ⟨g, rfl, (Array.getElem?_eq_some_iff.1 hg).1, by rw [hh.cellAt _ (by omega)]; exact hf.1, by rw [hh.cellAt _ (by omega)]; exact hf.2⟩

theorem rnew_ok (w : World) (s : Int) (h : 1 ≤ s ∧ s ≤ 1000000) : Calls Try.prog 21 #[.int .i64 s] w fun e w' => ∃ b, e = .returned (.tuple #[.pointer (some ⟨b, 0, none⟩), .int .i64 0]) ∧ w.heap.size ≤ b ∧ RQ w' b none s [] ∧ Below w.heap.size w w' := by
  obtain ⟨h1, h2⟩ := h
  go_enter Try.func21, Try.ntmps21
  go_wp2
  go_ret2
  exact ⟨w.heap.size, rfl, Nat.le_refl _, ⟨by simp, ⟨.slice none 0 0, Blk.new w _ 71, World.ownsRow_nil _ _ _ _, rfl⟩, by simp⟩, (Below.refl _ _).alloc (Nat.le_refl _) _⟩

theorem rnew_bad (w : World) (s : Int) (h : ¬ (1 ≤ s ∧ s ≤ 1000000)) : Calls Try.prog 21 #[.int .i64 s] w fun e w' => e = .returned (.tuple #[.pointer none, .int .i64 2]) ∧ w = w' := by
  by_cases h1 : s < 1
  · go_enter Try.func21, Try.ntmps21
    go_wp2
    go_ret2
    exact ⟨rfl, rfl⟩
  · have h2 : 1000000 < s := by omega
    go_enter Try.func21, Try.ntmps21
    go_wp2
    go_ret2
    exact ⟨rfl, rfl⟩

theorem rnext_any (w : World) (b : Nat) (r : Option Nat) (s : Int) (l : List Tk) (h : RQ w b r s l) : Calls Try.prog 25 #[.pointer (some ⟨b, 0, none⟩)] w fun e w' =>
    e = .returned (.tuple #[.int .i64 (l.head?.map (·.1) |>.getD 0), .bool (!l.isEmpty)]) ∧ w = w' := by
  obtain ⟨c0, a, c, hc, hcm, c1, hcell⟩ := h.cells
  cases l with
  | nil =>
    clear hcell h
    go_enter Try.func25, Try.ntmps25
    go_wp2
    go_ret2
    exact ⟨rfl, rfl⟩
  | cons p l =>
    obtain ⟨g, rfl, hg, e0, e1⟩ := hcell 0 p rfl
    have hsm := h.sm
    simp only [Nat.zero_mul, Nat.zero_add] at e0 e1
    have hpos : (0 : Int) < ((p :: l).length : Int) := by simp only [List.length_cons]; omega
    have hne : (((p :: l).length : Int) == 0) = false := by simp; omega
    clear hcell h
    go_enter Try.func25, Try.ntmps25
    generalize (p :: l).length = n at *
    go_wp2
    go_ret2
    exact ⟨rfl, rfl⟩
end Go.Proofs.Ytjpkglgbcflbnaa
