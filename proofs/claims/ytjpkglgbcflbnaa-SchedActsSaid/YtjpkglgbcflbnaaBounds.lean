/- The walk of the law SchedBounds, out of that of SchedKnown. -/
import Derived.Test.YtjpkglgbcflbnaaKnown
import Derived.Test.YtjpkglgbcflbnaaPick
namespace Go.Proofs.Ytjpkglgbcflbnaa
open Go.RowKit

theorem relT_mod (s n t : Int) : relT s n t % s = 0 := Int.mul_emod_left _ _
theorem relT_ge (s n t : Int) (hs : 1 ≤ s) : n + t ≤ relT s n t ∧ relT s n t < n + t + s := by
  unfold relT
  have h1 := Int.emod_add_mul_ediv (n + t + s - 1) s
  have h2 := Int.emod_nonneg (n + t + s - 1) (b := s) (by omega)
  have h3 := Int.emod_lt_of_pos (n + t + s - 1) (b := s) (by omega)
  rw [Int.mul_comm] at h1
  omega
theorem relT_mono (s n t a b : Int) (hs : 1 ≤ s) (ha : 0 ≤ a) (hb : 0 ≤ b) : relT s n t ≤ relT s (n + a) (t + b) := by
  unfold relT
  exact Int.mul_le_mul_of_nonneg_right (Int.ediv_le_ediv (by omega) (by omega)) (by omega)

theorem emod_bd (x n : Int) (h : 1 ≤ n) : 0 ≤ x % n ∧ x % n < n := ⟨Int.emod_nonneg _ (by omega), Int.emod_lt_of_pos _ (by omega)⟩

set_option maxRecDepth 100000 in
set_option maxHeartbeats 2000000 in
theorem bounds_any (HW : WaitSaid) (x0 x1 x2 x3 x4 : Int) (w : World) : Calls Try.prog 6 #[.int .i64 x0, .int .i64 x1, .int .i64 x2, .int .i64 x3, .int .i64 x4] w fun e w' => e = .returned (.bool true) ∧ Below w.heap.size w w' := by
  have hHW := hid HW; clear HW
  have e0 := emod_bd x0 1000000 (by omega)
  have e1 := emod_bd x1 549755813888 (by omega)
  have e2 := emod_bd x2 500000000 (by omega)
  have e3 := emod_bd x3 1073741824 (by omega)
  have e4 := emod_bd x4 500000000 (by omega)
  have p0 := pick_any x0 1000000 (by omega) (by omega)
  have p1 := pick_any x1 549755813888 (by omega) (by omega)
  have p2 := pick_any x2 500000000 (by omega) (by omega)
  have p3 := pick_any x3 1073741824 (by omega) (by omega)
  have p4 := pick_any x4 500000000 (by omega) (by omega)
  generalize x0 % 1000000 = a at *
  generalize x1 % 549755813888 = b at *
  generalize x2 % 500000000 = c at *
  generalize x3 % 1073741824 = d at *
  generalize x4 % 500000000 = f at *
  have P0 := hid p0; have P1 := hid p1; have P2 := hid p2; have P3 := hid p3; have P4 := hid p4
  clear p0 p1 p2 p3 p4
  have r1 : relOk (1 + a) b c := by unfold relOk; omega
  have r2 : relOk (1 + a) (b + d) (c + f) := by unfold relOk; omega
  have bd1 := relT_bd r1
  have bd2 := relT_bd r2
  have R1 := hid r1; have R2 := hid r2; clear r1 r2
  have g1 := relT_ge (1 + a) b c (by omega)
  have g2 := relT_mono (1 + a) b c d f (by omega) (by omega) (by omega)
  have g3 := relT_mod (1 + a) b c
  have k1 : 0 ≤ relT (1 + a) b c ∧ relT (1 + a) b c ≤ 1100512627775 := ⟨bd1.2.2.1, bd1.2.2.2⟩
  have k2 : 0 ≤ relT (1 + a) (b + d) (c + f) ∧ relT (1 + a) (b + d) (c + f) ≤ 1100512627775 := ⟨bd2.2.2.1, bd2.2.2.2⟩
  clear bd1 bd2
  have c1 := release_ok (1 + a) b c
  have c2 := release_ok (1 + a) (b + d) (c + f)
  generalize relT (1 + a) b c = t at *
  generalize relT (1 + a) (b + d) (c + f) = u at *
  have C1 := hid c1; have C2 := hid c2; clear c1 c2
  have a1 : (1 + a == 0) = false := by simp; omega
  go_enter Try.func6, Try.ntmps6
  go_wp2_with fail
  refine (known_any hHW.out w).mono ?_; rintro e w1 ⟨rfl, hb1⟩
  have B1 := hid hb1; clear hb1
  go_wp2_with fail
  refine (P0.out w1).mono ?_; rintro e w2 ⟨rfl, rfl⟩
  go_wp2_with fail
  refine (P1.out w1).mono ?_; rintro e w2 ⟨rfl, rfl⟩
  go_wp2_with fail
  refine (P2.out w1).mono ?_; rintro e w2 ⟨rfl, rfl⟩
  go_wp2_with fail
  refine (C1.out w1 R1.out).mono ?_; rintro e w2 ⟨rfl, hb2⟩
  have B2 := hid (B1.out.trans (hb2.mono B1.out.size)); clear hb2 B1
  go_wp2_with fail
  refine (P3.out w2).mono ?_; rintro e w3 ⟨rfl, rfl⟩
  go_wp2_with fail
  refine (P4.out w2).mono ?_; rintro e w3 ⟨rfl, rfl⟩
  go_wp2_with fail
  refine (C2.out w2 R2.out).mono ?_; rintro e w3 ⟨rfl, hb3⟩
  have B3 := hid (B2.out.trans (hb3.mono B2.out.size)); clear hb3 B2
  go_wp2_with fail
  go_ret
  exact ⟨rfl, B3.out⟩
end Go.Proofs.Ytjpkglgbcflbnaa
