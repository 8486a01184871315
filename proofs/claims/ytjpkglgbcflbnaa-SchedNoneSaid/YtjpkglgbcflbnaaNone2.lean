/- The walk of the law SchedNone. -/
import Derived.Test.YtjpkglgbcflbnaaNone
namespace Go.Proofs.Ytjpkglgbcflbnaa
open Go.RowKit

set_option maxHeartbeats 1000000 in
theorem none_walk (k t n s : Int) (w : World) :
    Calls Try.prog 4 #[.agg #[.int .i64 k, .int .i64 t, .int .i64 n, .int .i64 s]] w fun e w' => e = .returned (.bool true) ∧ Below w.heap.size w w' := by
  go_enter Try.func4, Try.ntmps4
  go_wp2
  refine wp_loop_rounds 3 ?_
  rw [rounds_succ]
  go_wp2_with fail
  have B0 := hid (((Below.refl w.heap.size w).alloc (Nat.le_refl _) (.cells #[.int .i64 k, .int .i64 t, .int .i64 n, .int .i64 s] 28)).alloc (by simp) (.cells #[.int .i64 0, .slice none 0 0] 33) |>.alloc (by simp; omega) (.cells #[.pointer none, .pointer (some ⟨w.heap.size + 1, 0, none⟩)] 29))
  have X0 := hid (((Blk.new w #[.int .i64 k, .int .i64 t, .int .i64 n, .int .i64 s] 28).alloc (.cells #[.int .i64 0, .slice none 0 0] 33)).alloc (.cells #[.pointer none, .pointer (some ⟨w.heap.size + 1, 0, none⟩)] 29))
  have Z0 := hid ((Blk.made (n := w.heap.size + 1) (w.alloc (.cells #[.int .i64 k, .int .i64 t, .int .i64 n, .int .i64 s] 28)) #[.int .i64 0, .slice none 0 0] 33 (by simp)).alloc (.cells #[.pointer none, .pointer (some ⟨w.heap.size + 1, 0, none⟩)] 29))
  have S0 := hid (Blk.made (n := w.heap.size + 2) ((w.alloc (.cells #[.int .i64 k, .int .i64 t, .int .i64 n, .int .i64 s] 28)).alloc (.cells #[.int .i64 0, .slice none 0 0] 33)) #[.pointer none, .pointer (some ⟨w.heap.size + 1, 0, none⟩)] 29 (by simp))
  refine (add_none _ _ (.inl rfl) _ _ _).mono ?_; rintro e w1 ⟨rfl, hb1⟩
  have B1 := hid (B0.out.trans (hb1.mono B0.out.size)); have X1 := hid (X0.out.call hb1); have Z1 := hid (Z0.out.call hb1); have S1 := hid (S0.out.call hb1)
  clear hb1 B0 X0 Z0 S0
  go_wp2_with fail
  refine (next_none _ _ (.inl rfl)).mono ?_; rintro e w2 ⟨rfl, rfl⟩
  go_wp2_with fail
  refine (copy_none _ _ (.inl rfl)).mono ?_; rintro e w2 ⟨r2, rfl, hn2, hb2⟩
  have Hn2 := hid hn2; clear hn2
  have B2 := hid (B1.out.trans (hb2.mono B1.out.size)); have X2 := hid (X1.out.call hb2); have Z2 := hid (Z1.out.call hb2); have S2 := hid (S1.out.call hb2)
  clear hb2 B1 X1 Z1 S1
  go_wp2_with fail
  refine (add_none _ _ Hn2.out _ _ _).mono ?_; rintro e w3 ⟨rfl, hb3⟩
  have B3 := hid (B2.out.trans (hb3.mono B2.out.size)); have X3 := hid (X2.out.call hb3); have Z3 := hid (Z2.out.call hb3); have S3 := hid (S2.out.call hb3)
  clear hb3 B2 X2 Z2 S2 Hn2
  have cx := X3.out.cell 2
  simp at cx
  go_wp2_with fail
  refine (due_none _ _ (.inl rfl) _).mono ?_; rintro e w4 ⟨rfl, rfl⟩
  go_wp2_with fail
  refine (waiting_none _ _ (.inl rfl)).mono ?_; rintro e w4 ⟨rfl, rfl⟩
  go_wp2_with fail
  rw [rounds_succ]
  have sx := S3.out.cell 1
  simp at sx
  have sx1 := X3.out.cell 1
  simp at sx1
  have sx3 := X3.out.cell 3
  simp at sx3
  have zx := Z3.out.cell 0
  simp at zx
  have hz3 : NoneQ w3 (.pointer (some ⟨w.heap.size + 1, 0, none⟩)) := .inr ⟨_, rfl, Z3.out.lt, zx⟩
  clear zx
  have Hz3 := hid hz3; clear hz3
  go_wp2_with fail
  refine (add_none _ _ Hz3.out _ _ _).mono ?_; rintro e w4 ⟨rfl, hb4⟩
  have B4 := hid (B3.out.trans (hb4.mono B3.out.size)); have X4 := hid (X3.out.call hb4); have Hz4 := hid (Hz3.out.below hb4)
  clear hb4 B3 X3 Hz3 S3 Z3 sx sx1 sx3
  go_wp2_with fail
  refine (next_none _ _ Hz4.out).mono ?_; rintro e w5 ⟨rfl, rfl⟩
  go_wp2_with fail
  refine (copy_none _ _ Hz4.out).mono ?_; rintro e w5 ⟨r5, rfl, hn5, hb5⟩
  have Hn5 := hid hn5; clear hn5
  have B5 := hid (B4.out.trans (hb5.mono B4.out.size)); have X5 := hid (X4.out.call hb5); have Hz5 := hid (Hz4.out.below hb5)
  clear hb5 B4 X4 Hz4
  go_wp2_with fail
  refine (add_none _ _ Hn5.out _ _ _).mono ?_; rintro e w6 ⟨rfl, hb6⟩
  have B6 := hid (B5.out.trans (hb6.mono B5.out.size)); have X6 := hid (X5.out.call hb6); have Hz6 := hid (Hz5.out.below hb6)
  clear hb6 B5 X5 Hn5 Hz5 cx
  have cx6 := X6.out.cell 2
  simp at cx6
  go_wp2_with fail
  refine (due_none _ _ Hz6.out _).mono ?_; rintro e w7 ⟨rfl, rfl⟩
  go_wp2_with fail
  refine (waiting_none _ _ Hz6.out).mono ?_; rintro e w7 ⟨rfl, rfl⟩
  go_wp2_with fail
  rw [rounds_succ]
  go_wp2_with fail
  refine (awake_any _).mono ?_; rintro e w7 ⟨rfl, hb7⟩
  go_wp2_with fail
  go_ret
  exact ⟨rfl, B6.out.trans (hb7.mono B6.out.size)⟩
end Go.Proofs.Ytjpkglgbcflbnaa
