/- Walks: the comparison of waiting tickets. -/
import Derived.Test.YtjpkglgbcflbnaaTimes
import Derived.Test.YtjpkglgbcflbnaaHeapMath
import Derived.StillTailTactics
import Derived.Deep.QuietTactic
import Derived.BigQuiet
namespace Go.Proofs.Ytjpkglgbcflbnaa
open Go.RowKit


theorem isNaN_any (a : Int) (w : World) : Calls Try.prog 52 #[.int .i64 a] w fun e w' => e = .returned (.bool false) ∧ w = w' := by
  go_enter Try.func52, Try.ntmps52
  go_wp2
  go_ret
  exact ⟨by simp, rfl⟩

theorem compare_any (a b : Int) (w : World) : Calls Try.prog 41 #[.int .i64 a, .int .i64 b] w fun e w' => e = .returned (.int .i64 (cmpI a b)) ∧ w = w' := by
  go_enter Try.func41, Try.ntmps41
  go_wp2_with (go_at_call 52; refine (isNaN_any _ _).mono ?_; rintro e w' ⟨rfl, rfl⟩)
  all_goals (go_ret; refine ⟨?_, rfl⟩)
  · simp [cmpI]; omega
  · simp [cmpI]; omega
  · simp [cmpI]; omega

theorem or_any (a b : Int) (w : World) (k : Nat) (t : TypeId) (hk : Blk w k #[.int .i64 a, .int .i64 b] t) (c : Nat) : Calls Try.prog 40 #[.slice (some ⟨k, 0, none⟩) 2 c] w fun e w' => e = .returned (.int .i64 (orI a b)) ∧ w = w' := by
  have h0 := hk.cell 0
  have h1 := hk.cell 1
  simp at h0 h1
  go_enter Try.func40, Try.ntmps40
  go_wp2
  refine wp_loop_rounds 3 ?_
  rw [rounds_succ]
  go_wp2
  all_goals try rw [rounds_succ]
  go_wp2
  all_goals try rw [rounds_succ]
  go_wp2
  · have h : (a != 0) = true := by assumption
    go_ret
    refine ⟨?_, rfl⟩
    simp at h
    simp [orI, h]
  · have h : (a != 0) = false := by assumption
    go_ret
    refine ⟨?_, rfl⟩
    simp at h
    simp [orI, h]
  · have h : (a != 0) = false := by assumption
    have h' : (b != 0) = false := by assumption
    go_ret
    refine ⟨?_, rfl⟩
    simp at h h'
    simp [orI, h, h']


set_option maxRecDepth 10000 in
set_option maxHeartbeats 400000 in
theorem order_any (p q : Int × Int) (w : World) : Calls Try.prog 34 #[.agg #[.int .i64 p.1, .int .i64 p.2], .agg #[.int .i64 q.1, .int .i64 q.2]] w fun e w' => e = .returned (.int .i64 (ordI p q)) ∧ Below w.heap.size w w' := by
  obtain ⟨p1, p2⟩ := p
  obtain ⟨q1, q2⟩ := q
  dsimp only
  go_enter Try.func34, Try.ntmps34
  go_wp2
  refine region_tail 10 (by kernel_rfl) (by kernel_rfl) ?_
  simp only [List.take_succ_cons, List.take_zero, List.drop_succ_cons, List.drop_zero]
  have hcmp : ∀ (a b : Int) (w : World), Calls Try.prog 41 #[.int .i64 a, .int .i64 b] w fun e w' => e = .returned (.int .i64 (cmpI a b)) ∧ w' = w := fun a b w => (compare_any a b w).mono fun _ _ ⟨h, k⟩ => ⟨h, k.symm⟩
  have HC := hid hcmp; clear hcmp
  iterate 4 still_step
  still_call (HC.out _ _ _)
  iterate 4 still_step
  still_call (HC.out _ _ _)
  refine wpStill_nil ?_
  go_wp2_with fail
  refine (or_any _ _ _ _ 3 (Blk.drew (Blk.made _ _ _ (by simp))) _).mono ?_; rintro e w1 ⟨rfl, rfl⟩
  go_wp2_with fail
  go_ret
  exact ⟨rfl, ((((Below.refl _ _).alloc (Nat.le_refl _) _).alloc (by simp) _).alloc (by simp; omega) _).drew⟩

theorem len_any (a : Option Addr) (n c : Nat) (w : World) : Calls Try.prog 76 #[.slice a n c] w fun e w' => e = .returned (.int .i64 n) ∧ w = w' := by
  go_enter Try.func76, Try.ntmps76
  go_wp2
  go_ret
  exact ⟨rfl, rfl⟩

end Go.Proofs.Ytjpkglgbcflbnaa
