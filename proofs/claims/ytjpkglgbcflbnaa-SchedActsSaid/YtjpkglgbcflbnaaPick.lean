/- Walks: the choice of a number below another one. -/
import Derived.Test.YtjpkglgbcflbnaaTimes
namespace Go.Proofs.Ytjpkglgbcflbnaa
open Go.RowKit

theorem tmod_emod (x n : Int) (hn : 1 ≤ n) : (x.tmod n + n) % n = x % n ∧ 0 ≤ x.tmod n + n ∧ -n < x.tmod n ∧ x.tmod n < n := by
  have h1 := Int.tmod_lt_of_pos x (b := n) (by omega)
  have h2 : -n < x.tmod n := by
    have := Int.lt_tmod_of_pos x (b := n) (by omega)
    omega
  refine ⟨?_, by omega, h2, h1⟩
  rw [Int.add_emod_right, Int.tmod_eq_emod]
  split
  · simp
  · have : ((n.natAbs : Int)) = n := by omega
    rw [this]; simp

theorem pick_any (x n : Int) (hn : 1 ≤ n) (hn2 : n ≤ 4000000000000) (w : World) :
    Calls Try.prog 20 #[.int .i64 x, .int .i64 n] w fun e w' => e = .returned (.int .i64 (x % n)) ∧ w = w' := by
  obtain ⟨e, h1, h2, h3⟩ := tmod_emod x n hn
  have E := hid e; clear e
  have hn0 : (n == 0) = false := by simp; omega
  go_enter Try.func20, Try.ntmps20
  go_wp2

  go_ret
  exact ⟨by rw [← E.out]; rfl, rfl⟩
end Go.Proofs.Ytjpkglgbcflbnaa
