/- Walks: the reference's Copy. -/
import Derived.Test.YtjpkglgbcflbnaaApp
namespace Go.Proofs.Ytjpkglgbcflbnaa
open Go.RowKit

theorem empty_row (w : World) : Hid ((w.alloc (.cells #[] 73)).drew.ownsRow 0 73 2 (.slice (some ⟨w.heap.size, 0, none⟩) 0 0) 0 []) :=
  ⟨rfl, .inr ⟨w.heap.size, 0, #[], rfl, Nat.zero_le _, Blk.new w #[] 73, Nat.le_refl _, by unfold maxLen; omega, rfl, rfl⟩⟩

theorem RQ.src {w : World} {b : Nat} {r : Option Nat} {s : Int} {l : List Tk} (h : RQ w b r s l) {a : Option Addr} {c : Nat} (c1 : w.cell? ⟨b, 1, none⟩ = some (.slice a l.length c)) : Src w a l.length (flatR l) := by
  obtain ⟨v, h1, h2, h3⟩ := h.ex
  have hv : v = .slice a l.length c := by
    have := h1.cell 1
    rw [c1] at this
    simpa using this.symm
  subst hv
  exact src_of_owns h2

theorem src_later {w : World} {b : Nat} {r : Option Nat} {s : Int} {l : List Tk} (h : RQ w b r s l) {a : Option Addr} {c : Nat} (c1 : w.cell? ⟨b, 1, none⟩ = some (.slice a l.length c)) : Src (w.alloc (.cells #[] 73)).drew a l.length (flatR l) :=
  (h.src c1).call fun _ _ k => ((Below.refl w.heap.size w).alloc (Nat.le_refl _) (.cells #[] 73)).cell (World.block_lt_of_cell? w _ k) |>.trans k

set_option maxRecDepth 10000 in
set_option maxHeartbeats 2000000 in
theorem rcopy_any (w : World) (b : Nat) (r : Option Nat) (s : Int) (l : List Tk) (h : RQ w b r s l) :
    Calls Try.prog 24 #[.pointer (some ⟨b, 0, none⟩)] w fun e w' => ∃ b' r', e = .returned (.pointer (some ⟨b', 0, none⟩)) ∧ RQ w' b' r' s l ∧ w.heap.size ≤ b' ∧ (∀ x, r' = some x → w.heap.size ≤ x) ∧ Below w.heap.size w w' := by
  obtain ⟨c0, a, c, hc, hcm, c1, hcell⟩ := h.cells
  have hsm := h.sm; have hlt := h.lt
  have H := hid h
  have SRC := hid (src_later h c1)
  clear hcell h
  go_enter Try.func24, Try.ntmps24
  go_wp2_with fail
  go_region_held3 (fun w' => w'.cell? ⟨b, 0, none⟩ = some (.int .i64 s) ∧ w'.cell? ⟨b, 1, none⟩ = some (.slice a l.length c))
    (first
      | go_keep
      | (go_split_ands
         refine ⟨?_, ?_⟩
         · (rw [hgrow.cell_far _ (by simp; omega) (by simp [Value.ownBlock]; omega)]; assumption)
         · (rw [hgrow.cell_far _ (by simp; omega) (by simp [Value.ownBlock]; omega)]; assumption)))
    ((refine app_step (by rfl) _ _ (by rfl) (.slice (some ⟨w.heap.size, 0, none⟩) 0 0) 0 [] (by rfl) (empty_row w).out a l.length c (flatR l) (by rfl) (SRC.out) (by omega) ?_; intro v1 w1 hown1 hgrow hat; obtain ⟨a1, k1, rfl⟩ := owns_ex hown1; simp only [Nat.zero_add, List.nil_append] at hown1))
  go_wp2_with fail
  go_ret
  have hrow : ∀ x, (Value.slice a1 l.length k1).ownBlock = some x → w.heap.size ≤ x := fun x hx => by
    rcases hat with k | k
    · rw [Nat.zero_add, hx] at k; simp [Value.ownBlock] at k; omega
    · rw [Nat.zero_add, hx] at k; simp at k; omega
  have hb1 : Below w.heap.size w w1 := by
    have h1 : Below w.heap.size w (w.alloc (.cells #[] 73)).drew := ((Below.refl _ _).alloc (Nat.le_refl _) _).drew
    refine h1.trans ⟨hgrow.os, hgrow.tape, hgrow.output, hgrow.size, fun k hk => hgrow.block k (by simp; omega) (by simp [Value.ownBlock]; omega)⟩
  refine ⟨w1.heap.size, (Value.slice a1 l.length k1).ownBlock, rfl, ⟨hsm, ⟨_, Blk.new w1 _ 71, hown1.alloc _, rfl⟩, fun e => ?_⟩, hb1.size, hrow, hb1.alloc hb1.size _⟩
  have := (owns_lt hown1) _ e
  omega
end Go.Proofs.Ytjpkglgbcflbnaa
