/- Walks of the two Release functions. -/
import Derived.Test.YtjpkglgbcflbnaaRows
import Derived.WalkKit
import Derived.WalkSpells
import Derived.WalkLawsBesides
import Derived.LoopN
import Derived.Test.YtjpkglgbcflbnaaBase
namespace Go.Proofs.Ytjpkglgbcflbnaa
open Go.RowKit


/-- The arguments of Release are in range. -/
def relOk (s n t : Int) : Prop := 1 ≤ s ∧ s ≤ 1000000 ∧ 0 ≤ n ∧ n ≤ 1099511627776 ∧ 0 ≤ t ∧ t ≤ 1000000000
/-- The release time. -/
def relT (s n t : Int) : Int := (n + t + s - 1) / s * s

theorem relT_bd {s n t : Int} (h : relOk s n t) : 0 ≤ (n + t + s - 1) / s ∧ (n + t + s - 1) / s ≤ 1100512627775 ∧ 0 ≤ (n + t + s - 1) / s * s ∧ (n + t + s - 1) / s * s ≤ 1100512627775 := by
  obtain ⟨h1, h2, h3, h4, h5, h6⟩ := h
  have a := Int.ediv_nonneg (a := n + t + s - 1) (b := s) (by omega) (by omega)
  have b := Int.ediv_mul_le (n + t + s - 1) (b := s) (by omega)
  have c := Int.ediv_le_self (a := n + t + s - 1) s (by omega)
  have d : 0 ≤ (n + t + s - 1) / s * s := Int.mul_nonneg a (by omega)
  exact ⟨a, by omega, d, by omega⟩

set_option maxHeartbeats 400000 in
theorem refRelease_ok (s n t : Int) (w : World) (h : relOk s n t) :
    Calls Try.prog 10 #[.int .i64 s, .int .i64 n, .int .i64 t] w fun e w' => e = .returned (.tuple #[.int .i64 (relT s n t), .int .i64 0]) ∧ w = w' := by
  obtain ⟨b1, b2, b3, b4⟩ := relT_bd h
  obtain ⟨h1, h2, h3, h4, h5, h6⟩ := h
  go_enter Try.func10, Try.ntmps10
  go_wp2
  all_goals first | (exfalso; omega) | skip
  go_ret2
  exact ⟨rfl, rfl⟩

set_option maxHeartbeats 400000 in
theorem refRelease_bad (s n t : Int) (w : World) (h : ¬ relOk s n t) :
    Calls Try.prog 10 #[.int .i64 s, .int .i64 n, .int .i64 t] w fun e w' => e = .returned (.tuple #[.int .i64 0, .int .i64 2]) ∧ w = w' := by
  unfold relOk at h
  have H := hid h; clear h
  go_enter Try.func10, Try.ntmps10
  go_wp2
  all_goals first | (have h := H.out; exfalso; omega) | (go_ret2; exact ⟨rfl, rfl⟩)

set_option maxHeartbeats 1000000 in
theorem release_ok (s n t : Int) (w : World) (h : relOk s n t) :
    Calls Try.prog 9 #[.int .i64 s, .int .i64 n, .int .i64 t] w fun e w' => e = .returned (.tuple #[.int .i64 (relT s n t), .int .i64 0]) ∧ Below w.heap.size w w' := by
  obtain ⟨b1, b2, b3, b4⟩ := relT_bd h
  obtain ⟨h1, h2, h3, h4, h5, h6⟩ := h
  go_enter Try.func9, Try.ntmps9
  go_wp2
  refine wp_loop_rounds 4 ?_
  iterate 4 (rw [rounds_succ]; go_wp2)
  all_goals first | (exfalso; omega) | skip
  go_ret2
  exact ⟨rfl, by repeat (first | exact Below.refl _ _ | refine Below.alloc ?_ (by simp <;> omega) _ | refine Below.setCell ?_ (by simp <;> omega) _)⟩

set_option maxHeartbeats 1000000 in
theorem release_bad (s n t : Int) (w : World) (h : ¬ relOk s n t) :
    Calls Try.prog 9 #[.int .i64 s, .int .i64 n, .int .i64 t] w fun e w' => e = .returned (.tuple #[.int .i64 0, .int .i64 2]) ∧ Below w.heap.size w w' := by
  unfold relOk at h
  have H := hid h; clear h
  go_enter Try.func9, Try.ntmps9
  go_wp2
  refine wp_loop_rounds 4 ?_
  iterate 4 (all_goals (try rw [rounds_succ]); go_wp2)
  all_goals first | (have h := H.out; exfalso; omega) | skip
  all_goals (go_ret2; exact ⟨rfl, by repeat (first | exact Below.refl _ _ | refine Below.alloc ?_ (by simp <;> omega) _ | refine Below.setCell ?_ (by simp <;> omega) _)⟩)

theorem rel_cases (s n t : Int) : relOk s n t ∨ ¬ relOk s n t := Classical.em _

theorem gives_ok (s n t : Int) (h : relOk s n t) (w : World) :
    Calls Try.prog 19 #[.int .i64 s, .int .i64 n, .int .i64 t, .int .i64 (relT s n t)] w fun e w' => e = .returned (.bool true) ∧ Below w.heap.size w w' := by
  go_enter Try.func19, Try.ntmps19
  go_wp2_with (go_at_call 9; refine (release_ok _ _ _ _ h).mono ?_; rintro e w' ⟨rfl, hb⟩)
  go_ret
  exact ⟨rfl, hb⟩

theorem awake_any (w : World) :
    Calls Try.prog 11 #[] w fun e w' => e = .returned (.bool true) ∧ Below w.heap.size w w' := by
  have g1 := gives_ok 10 1 0 (by simp [relOk])
  have g2 := gives_ok 10 5 5 (by simp [relOk])
  have g3 := gives_ok 10 5 6 (by simp [relOk])
  rw [show relT 10 1 0 = 10 from by decide] at g1
  rw [show relT 10 5 5 = 10 from by decide] at g2
  rw [show relT 10 5 6 = 20 from by decide] at g3
  have G1 := hid g1
  have G2 := hid g2
  have G3 := hid g3
  clear g1 g2 g3
  go_enter Try.func11, Try.ntmps11
  go_wp2_with fail
  refine (G1.out _).mono ?_; rintro e w1 ⟨rfl, hb1⟩
  go_wp2_with fail
  refine (G2.out _).mono ?_; rintro e w2 ⟨rfl, hb2⟩
  go_wp2_with fail
  refine (G3.out _).mono ?_; rintro e w3 ⟨rfl, hb3⟩
  go_wp2_with fail
  go_ret
  exact ⟨rfl, (hb1.trans (hb2.mono hb1.size)).trans (hb3.mono (Nat.le_trans hb1.size hb2.size))⟩

theorem times_walk (s n t : Int) (w : World) :
    Calls Try.prog 3 #[.int .i64 s, .int .i64 n, .int .i64 t] w fun e w' => e = .returned (.bool true) ∧ Below w.heap.size w w' := by
  rcases rel_cases s n t with h | h
  · go_enter Try.func3, Try.ntmps3
    go_wp2_with fail
    refine (release_ok _ _ _ _ h).mono ?_; rintro e w1 ⟨rfl, hb1⟩
    go_wp2_with fail
    refine (refRelease_ok _ _ _ _ h).mono ?_; rintro e w2 ⟨rfl, rfl⟩
    go_wp2_with fail
    refine (awake_any _).mono ?_; rintro e w3 ⟨rfl, hb3⟩
    go_wp2_with fail
    go_ret
    exact ⟨rfl, hb1.trans (hb3.mono hb1.size)⟩
  · go_enter Try.func3, Try.ntmps3
    go_wp2_with fail
    refine (release_bad _ _ _ _ h).mono ?_; rintro e w1 ⟨rfl, hb1⟩
    go_wp2_with fail
    refine (refRelease_bad _ _ _ _ h).mono ?_; rintro e w2 ⟨rfl, rfl⟩
    go_wp2_with fail
    refine (awake_any _).mono ?_; rintro e w3 ⟨rfl, hb3⟩
    go_wp2_with fail
    go_ret
    exact ⟨rfl, hb1.trans (hb3.mono hb1.size)⟩

theorem times_law (s : Int) (_ : (Lit.int .i64 s).wf = true) (n : Int) (_ : (Lit.int .i64 n).wf = true) (t : Int) (_ : (Lit.int .i64 t).wf = true) (w : World) :
    Calls Try.prog 3 #[.int .i64 s, .int .i64 n, .int .i64 t] w fun e w' => e = .returned (.bool true) ∧ Below w.heap.size w w' := times_walk s n t w
end Go.Proofs.Ytjpkglgbcflbnaa
