/- Walks of the methods at an invalid queue, and of the law SchedNone. -/
import Derived.Test.YtjpkglgbcflbnaaTimes
namespace Go.Proofs.Ytjpkglgbcflbnaa
open Go.RowKit

/-- A queue that is invalid: nil, or a zero struct. -/
def NoneQ (w : World) (v : Value) : Prop := v = .pointer none ∨ ∃ b, v = .pointer (some ⟨b, 0, none⟩) ∧ b < w.heap.size ∧ w.cell? ⟨b, 0, none⟩ = some (.int .i64 0)

theorem NoneQ.below {w w' : World} {v : Value} (h : NoneQ w v) (hb : Below w.heap.size w w') : NoneQ w' v := by
  rcases h with h | ⟨b, h1, h2, h3⟩
  · exact .inl h
  · exact .inr ⟨b, h1, Nat.lt_of_lt_of_le h2 hb.size, (hb.cell (p := ⟨b, 0, none⟩) h2).trans h3⟩

theorem none_none (w : World) (v : Value) (h : NoneQ w v) : Calls Try.prog 27 #[v] w fun e w' => e = .returned (.bool true) ∧ w = w' := by
  rcases h with rfl | ⟨b, rfl, h2, h3⟩
  · go_enter Try.func27, Try.ntmps27
    go_wp2
    go_ret
    exact ⟨rfl, rfl⟩
  · go_enter Try.func27, Try.ntmps27
    go_wp2
    go_ret
    exact ⟨rfl, rfl⟩

theorem add_none (w : World) (v : Value) (h : NoneQ w v) (a b c : Int) : Calls Try.prog 12 #[v, .int .i64 a, .int .i64 b, .int .i64 c] w fun e w' => e = .returned (.tuple #[.int .i64 0, .int .i64 1]) ∧ Below w.heap.size w w' := by
  have H := hid h; clear h
  go_enter Try.func12, Try.ntmps12
  go_wp2_with fail
  refine (none_none _ _ (H.out.below ((Below.refl _ _).alloc (Nat.le_refl _) _))).mono ?_; rintro e w1 ⟨rfl, rfl⟩
  go_wp2_with fail
  go_ret2
  exact ⟨rfl, (Below.refl _ _).alloc (Nat.le_refl _) _⟩

theorem next_none (w : World) (v : Value) (h : NoneQ w v) : Calls Try.prog 13 #[v] w fun e w' => e = .returned (.tuple #[.int .i64 0, .bool false]) ∧ w = w' := by
  have H := hid h; clear h
  go_enter Try.func13, Try.ntmps13
  go_wp2_with fail
  refine (none_none _ _ H.out).mono ?_; rintro e w1 ⟨rfl, rfl⟩
  go_wp2_with fail
  go_ret2
  exact ⟨rfl, rfl⟩

theorem copy_none (w : World) (v : Value) (h : NoneQ w v) : Calls Try.prog 14 #[v] w fun e w' => ∃ r, e = .returned r ∧ NoneQ w' r ∧ Below w.heap.size w w' := by
  have H := hid h; clear h
  go_enter Try.func14, Try.ntmps14
  go_wp2_with fail
  refine (none_none _ _ H.out).mono ?_; rintro e w1 ⟨rfl, rfl⟩
  go_wp2_with fail
  go_ret
  exact ⟨_, rfl, .inr ⟨_, rfl, by simp, by simp⟩, (Below.refl _ _).alloc (Nat.le_refl _) _⟩

theorem due_none (w : World) (v : Value) (h : NoneQ w v) (a : Int) : Calls Try.prog 15 #[v, .int .i64 a] w fun e w' => e = .returned (.slice none 0 0) ∧ w = w' := by
  have H := hid h; clear h
  go_enter Try.func15, Try.ntmps15
  go_wp2_with fail
  refine wp_loop_rounds 1 ?_
  rw [rounds_succ]
  go_wp2_with fail
  refine (none_none _ _ H.out).mono ?_; rintro e w1 ⟨rfl, rfl⟩
  go_wp2_with fail
  go_ret
  exact ⟨rfl, rfl⟩

theorem waiting_none (w : World) (v : Value) (h : NoneQ w v) : Calls Try.prog 16 #[v] w fun e w' => e = .returned (.slice none 0 0) ∧ w = w' := by
  have H := hid h; clear h
  go_enter Try.func16, Try.ntmps16
  go_wp2_with fail
  refine (none_none _ _ H.out).mono ?_; rintro e w1 ⟨rfl, rfl⟩
  go_wp2_with fail
  go_ret
  exact ⟨rfl, rfl⟩

end Go.Proofs.Ytjpkglgbcflbnaa
