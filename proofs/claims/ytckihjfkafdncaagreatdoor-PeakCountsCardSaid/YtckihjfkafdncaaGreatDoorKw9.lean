/- Texts that the proof rests on, merged: Fr4, Rt4, Rt5, Fd11, Fn2, Cr0, Lr0, Fx0, Df0, Fd14, KoA, Tz, Pq0, Pct0, Fd9, Fd10, Fd12, Fd7, Fd5. -/
import Derived.Test.YtckihjfkafdncaaGreatDoorKw8
import Derived.Lib.SliceRun
import Derived.Deep.DeepCutAuto
import Derived.Deep.AppendLies
import Derived.IntWalk
import Derived.RangeFuncBox
set_option linter.unusedVariables false
set_option linter.unusedSimpArgs false
set_option linter.unusedSectionVars false
set_option maxRecDepth 100000
set_option maxHeartbeats 8000000
namespace Go.Proofs.YtckihjfkafdncaaGreatDoor
open Go.RowKit
theorem q_add_same {p q : Rat} {m : Bool} (h1 : decide (p.num < 0) = m) (h2 : decide (q.num < 0) = m) : qmk m (p.num.natAbs * q.den + q.num.natAbs * p.den) (p.den * q.den) = p + q := by
 rw [q_add, h1, h2, sgn_same]; rfl
theorem q_add_less {p q : Rat} {m1 m2 : Bool} (h1 : decide (p.num < 0) = m1) (h2 : decide (q.num < 0) = m2) (h : m1 ≠ m2) (hl : p.num.natAbs * q.den < q.num.natAbs * p.den) : qmk m2 (q.num.natAbs * p.den - p.num.natAbs * q.den) (p.den * q.den) = p + q := by
 rw [q_add, h1, h2, sgn_less h hl]; rfl
theorem q_add_more {p q : Rat} {m1 m2 : Bool} (h1 : decide (p.num < 0) = m1) (h2 : decide (q.num < 0) = m2) (h : m1 ≠ m2) (hl : q.num.natAbs * p.den ≤ p.num.natAbs * q.den) : qmk m1 (p.num.natAbs * q.den - q.num.natAbs * p.den) (p.den * q.den) = p + q := by
 rw [q_add, h1, h2, sgn_more h hl]; rfl
theorem f_Add (w : World) (v u : Value) (p q : Rat) (hp : IsQ .u64 w v p) (hq : IsQ .u64 w u q)
 (h1 : (limbs p.num.natAbs).length ≤ 100000) (h2 : (limbs p.den).length ≤ 100000) (h3 : (limbs q.num.natAbs).length ≤ 100000) (h4 : (limbs q.den).length ≤ 100000) :
 Calls Tryz.prog 135 #[v, u] w fun e w' => RetQ .u64 (p + q) e w' ∧ Below w.heap.size w w' := by
 obtain ⟨m1, hm1⟩ : ∃ m, decide (p.num < 0) = m := ⟨_, rfl⟩
 obtain ⟨m2, hm2⟩ : ∃ m, decide (q.num < 0) = m := ⟨_, rfl⟩
 have s1 := fun (e : m1 = m2) => q_add_same (m := m1) hm1 (hm2.trans e.symm)
 have s2 := q_add_less hm1 hm2
 have s3 := q_add_more hm1 hm2
 obtain ⟨Q, hQ⟩ : ∃ Q, p + q = Q := ⟨_, rfl⟩
 rw [hQ] at s1 s2 s3 ⊢
 have hD := hid (Nat.mul_pos p.den_pos q.den_pos)
 obtain ⟨N1, D1, rfl, hn1, hd1⟩ := hp.ex
 obtain ⟨N2, D2, rfl, hn2, hd2⟩ := hq.ex
 rw [hm1, hm2]
 clear hp hq hQ hm1 hm2
 generalize p.num.natAbs = n1 at *
 generalize q.num.natAbs = n2 at *
 generalize p.den = d1 at *
 generalize q.den = d2 at *
 have S1 := hid s1; have S2 := hid s2; have S3 := hid s3
 have HN1 := hid hn1; have HD1 := hid hd1; have HN2 := hid hn2; have HD2 := hid hd2
 have lx := len_mul h1 h4
 have ly := len_mul h3 h2
 have ld := len_mul h2 h4
 have LX := hid (Nat.le_trans lx (show 100000 + 100000 ≤ 200000 by omega)); have LY := hid (Nat.le_trans ly (show 100000 + 100000 ≤ 200000 by omega)); have LD := hid (Nat.le_trans ld (show 100000 + 100000 ≤ 1000000 by omega))
 have LXY := hid (Nat.le_trans (len_add lx ly) (show 100000 + 100000 + (100000 + 100000) + 1 ≤ 1000000 by omega))
 have H1 := hid (Nat.le_trans h1 (show 100000 ≤ 1000000 by omega))
 have H2 := hid (Nat.le_trans h2 (show 100000 ≤ 1000000 by omega))
 have H3 := hid (Nat.le_trans h3 (show 100000 ≤ 1000000 by omega))
 have H4 := hid (Nat.le_trans h4 (show 100000 ≤ 1000000 by omega))
 clear h1 h2 h3 h4 lx ly ld s1 s2 s3
 obtain ⟨a1, c1, rfl, _⟩ := hn1.openI
 obtain ⟨a2, c2, rfl, _⟩ := hd1.openI
 obtain ⟨a3, c3, rfl, _⟩ := hn2.openI
 obtain ⟨a4, c4, rfl, _⟩ := hd2.openI
 clear hn1 hd1 hn2 hd2
 go_enter Tryz.func135, Tryz.ntmps135
 go_wp2_with fail
 obtain ⟨W, hW⟩ : ∃ W, ((w.alloc (.cells #[.bool m1, .slice a1 (limbs n1).length c1, .slice a2 (limbs d1).length c2] 133)).alloc (.cells #[.bool m2, .slice a3 (limbs n2).length c3, .slice a4 (limbs d2).length c4] 133)).alloc (.cells #[.bool false, .slice none 0 0, .slice none 0 0] 133) = W := ⟨_, rfl⟩
 have T := hid (Three.mk' hW)
 rw [hW]
 clear hW
 have hS := T.out.cells (Below.refl _ _).drew
 have B0 := hid (T.out.below.drew)
 have C0 := hid ((Below.refl W.heap.size W).drew)
 refine held_plain [0, 1, 2, 3, 5, 6, 7, 8] 4 (twoF w.heap.size m1 m2 (.slice a1 (limbs n1).length c1) (.slice a2 (limbs d1).length c2) (.slice a3 (limbs n2).length c3) (.slice a4 (limbs d2).length c4)) (by kernel_rfl) (by kernel_rfl) (by kernel_rfl) (by kernel_rfl) hS ?_
 iterate 8
  refine ⟨_, rfl, ?_⟩
  apply Exists.intro
  refine ⟨.inl ⟨by rfl, ?_⟩, ?_⟩
  ·(intro W' hW'; obtain ⟨q1, q2, q3, q4, q5, q6⟩ := hW'; go_simp; try (with_reducible rfl))
  (dsimp only [Act.put]; try simp only [List.setIfInBounds_toArray, List.set_cons_zero, List.set_cons_succ])
 clear hS
 refine held_one (i := 4) (by kernel_rfl) (by rfl) (by rfl) ?_
 go_wp2_with fail
 refine (l_Mul _ _ _ n1 d2 (HN1.out.call B0.out) (HD2.out.call B0.out) H1.out H4.out).mono ?_; rintro e w1 ⟨⟨v1, rfl, hv1⟩, hb1⟩
 have B1 := hid (B0.out.trans (hb1.mono B0.out.size)); have C1 := hid (bnext C0.out hb1); have V1 := hid hv1
 clear hb1 hv1
 go_wp2_with fail
 refine ⟨T.out.cells C1.out, ?_⟩
 refine held_one (i := 9) (by kernel_rfl) (by rfl) (by rfl) ?_
 go_wp2_with fail
 refine (l_Mul _ _ _ n2 d1 (HN2.out.call B1.out) (HD1.out.call B1.out) H3.out H2.out).mono ?_; rintro e w2 ⟨⟨v2, rfl, hv2⟩, hb2⟩
 have B2 := hid (B1.out.trans (hb2.mono B1.out.size)); have C2 := hid (bnext C1.out hb2); have V2 := hid hv2; have W1 := hid (V1.out.call hb2)
 clear hb2 hv2
 go_wp2_with fail
 refine ⟨T.out.cells C2.out, ?_⟩
 refine held_more (is := [10, 11]) (g := 0) (by kernel_rfl) rfl (T.out.cells C2.out) (by kernel_rfl) ?_
 iterate 2
  refine ⟨_, rfl, ?_⟩
  apply Exists.intro
  refine ⟨.inl ⟨by rfl, ?_⟩, ?_⟩
  ·(intro W' hW'; clear hW'; go_simp; try (with_reducible rfl))
  (dsimp only [Act.put]; try simp only [List.setIfInBounds_toArray, List.set_cons_zero, List.set_cons_succ])
 refine wpAnyH_done (by kernel_rfl) ?_ _
 simp only [Only]
 obtain ⟨k0, k1, k2, k3, k4, k5⟩ := T.out.cells C2.out
 go_wp2_with fail
 refine (l_Mul _ _ _ d1 d2 (HD1.out.call B2.out) (HD2.out.call B2.out) H2.out H4.out).mono ?_; rintro e w3 ⟨⟨v3, rfl, hv3⟩, hb3⟩
 have B3 := hid (B2.out.trans (hb3.mono B2.out.size)); have C3 := hid (bnext C2.out hb3); have V3 := hid hv3; have X1 := hid (W1.out.call hb3); have X2 := hid (V2.out.call hb3)
 clear hb3 hv3 k0 k1 k2 k3 k4 k5
 go_wp2_with fail
 refine (l_Cmp _ _ _ (n1 * d2) (n2 * d1) X1.out X2.out (Nat.le_trans LX.out (by omega))).mono ?_; rintro e w4 ⟨rfl, hb4⟩
 have B4 := hid (B3.out.trans (hb4.mono B3.out.size)); have C4 := hid (bnext C3.out hb4); have V4 := hid (V3.out.call hb4); have Y1 := hid (X1.out.call hb4); have Y2 := hid (X2.out.call hb4)
 clear hb4
 obtain ⟨k0, k1, k2, k3, k4, k5⟩ := T.out.cells C4.out
 clear B0 B1 B2 B3 C0 C1 C2 C3 V1 V2 V3 W1 X1 X2
 obtain ⟨X, hX⟩ : ∃ X, n1 * d2 = X := ⟨_, rfl⟩
 obtain ⟨Y, hY⟩ : ∃ X, n2 * d1 = X := ⟨_, rfl⟩
 obtain ⟨E, hE⟩ : ∃ X, d1 * d2 = X := ⟨_, rfl⟩
 rw [hX] at S1 S2 S3 LX LXY Y1 ⊢
 rw [hY] at S1 S2 S3 LY LXY Y2 ⊢
 rw [hE] at S1 S2 S3 LD V4 hD
 clear hX hY hE
 by_cases em : m1 = m2
 ·have SA := hid (S1.out em)
  subst em
  have q0 : (m1 == m1) = true := beq_self_eq_true m1
  go_wp2_with fail
  have hS := T.out.cells C4.out.drew
  have B0 := hid B4.out.drew
  have C0 := hid C4.out.drew
  refine held_plain [0, 1, 2, 3, 5] 3 (twoF w.heap.size m1 m1 (.slice a1 (limbs n1).length c1) (.slice a2 (limbs d1).length c2) (.slice a3 (limbs n2).length c3) (.slice a4 (limbs d2).length c4)) (by kernel_rfl) (by kernel_rfl) (by kernel_rfl) (by kernel_rfl) hS ?_
  iterate 5
   refine ⟨_, rfl, ?_⟩
   apply Exists.intro
   refine ⟨.inl ⟨by rfl, ?_⟩, ?_⟩
   ·(intro W' hW'; obtain ⟨q1, q2, q3, q4, q5, q6⟩ := hW'; go_simp; try (with_reducible rfl))
   (dsimp only [Act.put]; try simp only [List.setIfInBounds_toArray, List.set_cons_zero, List.set_cons_succ])
  clear hS
  refine held_one (i := 4) (by kernel_rfl) (by rfl) (by rfl) ?_
  go_wp2_with fail
  refine (l_Add _ _ _ X Y (Y1.out.call (Below.refl _ _).drew) (Y2.out.call (Below.refl _ _).drew) (Nat.le_trans LX.out (by omega)) (Nat.le_trans LY.out (by omega))).mono ?_; rintro e w5 ⟨⟨v5, rfl, hv5⟩, hb5⟩
  have B5 := hid (B0.out.trans (hb5.mono B0.out.size)); have C5 := hid (C0.out.trans (hb5.mono C0.out.size)); have V5 := hid hv5; have E5 := hid (V4.out.call (show Below w4.heap.size w4 w5 from (Below.refl _ _).drew.trans hb5))
  clear hb5 hv5
  go_wp2_with fail
  refine ⟨T.out.cells C5.out, ?_⟩
  refine held_one (i := 6) (by kernel_rfl) (by rfl) (by rfl) ?_
  go_wp2_with fail
  refine (f_Make _ _ _ _ (X + Y) E V5.out E5.out hD.out (LXY.out) LD.out).mono ?_; rintro e w6 ⟨⟨v3, rfl, hv3⟩, hb6⟩
  rw [SA.out] at hv3
  have B6 := hid (B5.out.trans (hb6.mono B5.out.size)); have C6 := hid (C5.out.trans (hb6.mono C5.out.size))
  clear hb6
  obtain ⟨N3, D3, rfl, hN3, hD3⟩ := hv3.ex
  obtain ⟨a5, c5, rfl, _⟩ := hN3.openI
  obtain ⟨a6, c6, rfl, _⟩ := hD3.openI
  obtain ⟨k5, hk5⟩ : ∃ k, (limbs Q.num.natAbs).length = k := ⟨_, rfl⟩
  obtain ⟨k6, hk6⟩ : ∃ k, (limbs Q.den).length = k := ⟨_, rfl⟩
  obtain ⟨mq, hmq⟩ : ∃ m, decide (Q.num < 0) = m := ⟨_, rfl⟩
  rw [hk5] at hN3 ⊢
  rw [hk6] at hD3 ⊢
  rw [hmq]
  have HN3 := hid hN3; have HD3 := hid hD3; have HMQ := hid hmq
  have Z := hid (T.out.b2.call C6.out)
  have t0 := Z.out.cell 0
  have t1 := Z.out.cell 1
  have t2 := Z.out.cell 2
  have t3 := Z.out.free 0
  have t4 := Z.out.free 1
  have t5 := Z.out.free 2
  simp at t0 t1 t2
  clear hv3 hN3 hD3 hk5 hk6 hmq
  go_wp2_with fail
  refine ⟨T.out.cells C6.out, ?_⟩
  refine held_one (i := 7) (by kernel_rfl) (by rfl) (by rfl) ?_
  go_wp2_with fail
  refine ⟨T.out.stored C6.out _ _ _, ?_⟩
  refine wpAnyH_done (by kernel_rfl) ?_ _
  simp only [Only]
  obtain ⟨s1, s2⟩ := set3 Z.out mq a5 a6 k5 c5 k6 c6
  have f0 := s2.cell 0
  have f1 := s2.cell 1
  have f2 := s2.cell 2
  simp at f0 f1 f2
  clear t0 t1 t2 t3 t4 t5
  go_wp2_with fail
  refine bodyPost_ret (v := .agg #[.bool mq, .slice a5 k5 c5, .slice a6 k6 c6]) (by simp [results, Tryz.results135, go_sem, f0, f1, f2]) rfl ⟨⟨_, rfl, ⟨.slice a5 k5 c5, .slice a6 k6 c6, by rw [HMQ.out], s1 _ _ _ HN3.out, s1 _ _ _ HD3.out⟩⟩, ?_⟩
  exact ((B6.out.setCell (by simp; omega) _).setCell (by simp; omega) _).setCell (by simp; omega) _
 ·have q0 : (m1 == m2) = false := by simpa using em
  have HE := hid em
  clear em
  by_cases hc : X < Y
  ·have HC := hid hc
   rw [ordN_lt hc]
   clear hc
   go_wp2_with fail
   have hS := T.out.cells C4.out.drew
   have B0 := hid B4.out.drew
   have C0 := hid C4.out.drew
   refine held_plain [0, 1, 2, 3, 5] 3 (twoF w.heap.size m1 m2 (.slice a1 (limbs n1).length c1) (.slice a2 (limbs d1).length c2) (.slice a3 (limbs n2).length c3) (.slice a4 (limbs d2).length c4)) (by kernel_rfl) (by kernel_rfl) (by kernel_rfl) (by kernel_rfl) hS ?_
   iterate 5
    refine ⟨_, rfl, ?_⟩
    apply Exists.intro
    refine ⟨.inl ⟨by rfl, ?_⟩, ?_⟩
    ·(intro W' hW'; obtain ⟨q1, q2, q3, q4, q5, q6⟩ := hW'; go_simp; try (with_reducible rfl))
    (dsimp only [Act.put]; try simp only [List.setIfInBounds_toArray, List.set_cons_zero, List.set_cons_succ])
   clear hS
   refine held_one (i := 4) (by kernel_rfl) (by rfl) (by rfl) ?_
   go_wp2_with fail
   refine (l_Sub _ _ _ Y X (Y2.out.call (Below.refl _ _).drew) (Y1.out.call (Below.refl _ _).drew) (Nat.le_of_lt HC.out) (Nat.le_trans LY.out (by omega))).mono ?_; rintro e w5 ⟨⟨v5, rfl, hv5⟩, hb5⟩
   have B5 := hid (B0.out.trans (hb5.mono B0.out.size)); have C5 := hid (C0.out.trans (hb5.mono C0.out.size)); have V5 := hid hv5; have E5 := hid (V4.out.call (show Below w4.heap.size w4 w5 from (Below.refl _ _).drew.trans hb5))
   clear hb5 hv5
   go_wp2_with fail
   refine ⟨T.out.cells C5.out, ?_⟩
   refine held_one (i := 6) (by kernel_rfl) (by rfl) (by rfl) ?_
   go_wp2_with fail
   refine (f_Make _ _ _ _ (Y - X) E V5.out E5.out hD.out (Nat.le_trans (limbs_length_mono (Nat.sub_le Y X)) (Nat.le_trans LY.out (by omega))) LD.out).mono ?_; rintro e w6 ⟨⟨v3, rfl, hv3⟩, hb6⟩
   rw [S2.out HE.out HC.out] at hv3
   have B6 := hid (B5.out.trans (hb6.mono B5.out.size)); have C6 := hid (C5.out.trans (hb6.mono C5.out.size))
   clear hb6
   obtain ⟨N3, D3, rfl, hN3, hD3⟩ := hv3.ex
   obtain ⟨a5, c5, rfl, _⟩ := hN3.openI
   obtain ⟨a6, c6, rfl, _⟩ := hD3.openI
   obtain ⟨k5, hk5⟩ : ∃ k, (limbs Q.num.natAbs).length = k := ⟨_, rfl⟩
   obtain ⟨k6, hk6⟩ : ∃ k, (limbs Q.den).length = k := ⟨_, rfl⟩
   obtain ⟨mq, hmq⟩ : ∃ m, decide (Q.num < 0) = m := ⟨_, rfl⟩
   rw [hk5] at hN3 ⊢
   rw [hk6] at hD3 ⊢
   rw [hmq]
   have HN3 := hid hN3; have HD3 := hid hD3; have HMQ := hid hmq
   have Z := hid (T.out.b2.call C6.out)
   have t0 := Z.out.cell 0
   have t1 := Z.out.cell 1
   have t2 := Z.out.cell 2
   have t3 := Z.out.free 0
   have t4 := Z.out.free 1
   have t5 := Z.out.free 2
   simp at t0 t1 t2
   clear hv3 hN3 hD3 hk5 hk6 hmq
   go_wp2_with fail
   refine ⟨T.out.cells C6.out, ?_⟩
   refine held_one (i := 7) (by kernel_rfl) (by rfl) (by rfl) ?_
   go_wp2_with fail
   refine ⟨T.out.stored C6.out _ _ _, ?_⟩
   refine wpAnyH_done (by kernel_rfl) ?_ _
   simp only [Only]
   obtain ⟨s1, s2⟩ := set3 Z.out mq a5 a6 k5 c5 k6 c6
   have f0 := s2.cell 0
   have f1 := s2.cell 1
   have f2 := s2.cell 2
   simp at f0 f1 f2
   clear t0 t1 t2 t3 t4 t5
   go_wp2_with fail
   refine bodyPost_ret (v := .agg #[.bool mq, .slice a5 k5 c5, .slice a6 k6 c6]) (by simp [results, Tryz.results135, go_sem, f0, f1, f2]) rfl ⟨⟨_, rfl, ⟨.slice a5 k5 c5, .slice a6 k6 c6, by rw [HMQ.out], s1 _ _ _ HN3.out, s1 _ _ _ HD3.out⟩⟩, ?_⟩
   exact ((B6.out.setCell (by simp; omega) _).setCell (by simp; omega) _).setCell (by simp; omega) _
  ·have HC := hid (show Y ≤ X by omega)
   have q1 : decide (ordN X Y < 0) = false := by
    rcases Nat.lt_or_ge Y X with h | h
    ·rw [ordN_gt h]; rfl
    ·rw [show X = Y by omega, ordN_eq]; rfl
   clear hc
   go_wp2_with fail
   have hS := T.out.cells C4.out.drew
   have B0 := hid B4.out.drew
   have C0 := hid C4.out.drew
   refine held_plain [0, 1, 2, 3, 5] 3 (twoF w.heap.size m1 m2 (.slice a1 (limbs n1).length c1) (.slice a2 (limbs d1).length c2) (.slice a3 (limbs n2).length c3) (.slice a4 (limbs d2).length c4)) (by kernel_rfl) (by kernel_rfl) (by kernel_rfl) (by kernel_rfl) hS ?_
   iterate 5
    refine ⟨_, rfl, ?_⟩
    apply Exists.intro
    refine ⟨.inl ⟨by rfl, ?_⟩, ?_⟩
    ·(intro W' hW'; obtain ⟨q1, q2, q3, q4, q5, q6⟩ := hW'; go_simp; try (with_reducible rfl))
    (dsimp only [Act.put]; try simp only [List.setIfInBounds_toArray, List.set_cons_zero, List.set_cons_succ])
   clear hS
   refine held_one (i := 4) (by kernel_rfl) (by rfl) (by rfl) ?_
   go_wp2_with fail
   refine (l_Sub _ _ _ X Y (Y1.out.call (Below.refl _ _).drew) (Y2.out.call (Below.refl _ _).drew) HC.out (Nat.le_trans LX.out (by omega))).mono ?_; rintro e w5 ⟨⟨v5, rfl, hv5⟩, hb5⟩
   have B5 := hid (B0.out.trans (hb5.mono B0.out.size)); have C5 := hid (C0.out.trans (hb5.mono C0.out.size)); have V5 := hid hv5; have E5 := hid (V4.out.call (show Below w4.heap.size w4 w5 from (Below.refl _ _).drew.trans hb5))
   clear hb5 hv5
   go_wp2_with fail
   refine ⟨T.out.cells C5.out, ?_⟩
   refine held_one (i := 6) (by kernel_rfl) (by rfl) (by rfl) ?_
   go_wp2_with fail
   refine (f_Make _ _ _ _ (X - Y) E V5.out E5.out hD.out (Nat.le_trans (limbs_length_mono (Nat.sub_le X Y)) (Nat.le_trans LX.out (by omega))) LD.out).mono ?_; rintro e w6 ⟨⟨v3, rfl, hv3⟩, hb6⟩
   rw [S3.out HE.out HC.out] at hv3
   have B6 := hid (B5.out.trans (hb6.mono B5.out.size)); have C6 := hid (C5.out.trans (hb6.mono C5.out.size))
   clear hb6
   obtain ⟨N3, D3, rfl, hN3, hD3⟩ := hv3.ex
   obtain ⟨a5, c5, rfl, _⟩ := hN3.openI
   obtain ⟨a6, c6, rfl, _⟩ := hD3.openI
   obtain ⟨k5, hk5⟩ : ∃ k, (limbs Q.num.natAbs).length = k := ⟨_, rfl⟩
   obtain ⟨k6, hk6⟩ : ∃ k, (limbs Q.den).length = k := ⟨_, rfl⟩
   obtain ⟨mq, hmq⟩ : ∃ m, decide (Q.num < 0) = m := ⟨_, rfl⟩
   rw [hk5] at hN3 ⊢
   rw [hk6] at hD3 ⊢
   rw [hmq]
   have HN3 := hid hN3; have HD3 := hid hD3; have HMQ := hid hmq
   have Z := hid (T.out.b2.call C6.out)
   have t0 := Z.out.cell 0
   have t1 := Z.out.cell 1
   have t2 := Z.out.cell 2
   have t3 := Z.out.free 0
   have t4 := Z.out.free 1
   have t5 := Z.out.free 2
   simp at t0 t1 t2
   clear hv3 hN3 hD3 hk5 hk6 hmq
   go_wp2_with fail
   refine ⟨T.out.cells C6.out, ?_⟩
   refine held_one (i := 7) (by kernel_rfl) (by rfl) (by rfl) ?_
   go_wp2_with fail
   refine ⟨T.out.stored C6.out _ _ _, ?_⟩
   refine wpAnyH_done (by kernel_rfl) ?_ _
   simp only [Only]
   obtain ⟨s1, s2⟩ := set3 Z.out mq a5 a6 k5 c5 k6 c6
   have f0 := s2.cell 0
   have f1 := s2.cell 1
   have f2 := s2.cell 2
   simp at f0 f1 f2
   clear t0 t1 t2 t3 t4 t5
   go_wp2_with fail
   refine bodyPost_ret (v := .agg #[.bool mq, .slice a5 k5 c5, .slice a6 k6 c6]) (by simp [results, Tryz.results135, go_sem, f0, f1, f2]) rfl ⟨⟨_, rfl, ⟨.slice a5 k5 c5, .slice a6 k6 c6, by rw [HMQ.out], s1 _ _ _ HN3.out, s1 _ _ _ HD3.out⟩⟩, ?_⟩
   exact ((B6.out.setCell (by simp; omega) _).setCell (by simp; omega) _).setCell (by simp; omega) _
theorem f_Sub (w : World) (v u : Value) (p q : Rat) (hp : IsQ .u64 w v p) (hq : IsQ .u64 w u q)
 (h1 : (limbs p.num.natAbs).length ≤ 100000) (h2 : (limbs p.den).length ≤ 100000) (h3 : (limbs q.num.natAbs).length ≤ 100000) (h4 : (limbs q.den).length ≤ 100000) :
 Calls Tryz.prog 138 #[v, u] w fun e w' => RetQ .u64 (p - q) e w' ∧ Below w.heap.size w w' := by
 have e1 : p + -q = p - q := (Rat.sub_eq_add_neg p q).symm
 have F1 := fun V v h => hid (f_Neg V v q h)
 have F2 := fun V v u hv hu => hid (f_Add V v u p (-q) hv hu h1 h2 (by rw [Rat.neg_num, Int.natAbs_neg]; exact h3) (by rw [Rat.neg_den]; exact h4))
 rw [e1] at F2
 obtain ⟨Q, hQ⟩ : ∃ Q, p - q = Q := ⟨_, rfl⟩
 rw [hQ] at F2 ⊢
 have HP := hid hp; have HQ' := hid hq
 obtain ⟨N1, D1, rfl, hn1, hd1⟩ := hp.ex
 obtain ⟨N2, D2, rfl, hn2, hd2⟩ := hq.ex
 obtain ⟨a1, c1, rfl, _⟩ := hn1.openI
 obtain ⟨a2, c2, rfl, _⟩ := hd1.openI
 obtain ⟨a3, c3, rfl, _⟩ := hn2.openI
 obtain ⟨a4, c4, rfl, _⟩ := hd2.openI
 clear hp hq hQ e1 hn1 hd1 hn2 hd2 h1 h2 h3 h4
 obtain ⟨m1, hm1⟩ : ∃ m, decide (p.num < 0) = m := ⟨_, rfl⟩
 obtain ⟨m2, hm2⟩ : ∃ m, decide (q.num < 0) = m := ⟨_, rfl⟩
 obtain ⟨l1, hl1⟩ : ∃ m, (limbs p.num.natAbs).length = m := ⟨_, rfl⟩
 obtain ⟨l2, hl2⟩ : ∃ m, (limbs p.den).length = m := ⟨_, rfl⟩
 obtain ⟨l3, hl3⟩ : ∃ m, (limbs q.num.natAbs).length = m := ⟨_, rfl⟩
 obtain ⟨l4, hl4⟩ : ∃ m, (limbs q.den).length = m := ⟨_, rfl⟩
 rw [hm1, hl1, hl2] at HP
 rw [hm2, hl3, hl4] at HQ'
 rw [hm1, hm2, hl1, hl2, hl3, hl4]
 clear hm1 hm2 hl1 hl2 hl3 hl4
 go_enter Tryz.func138, Tryz.ntmps138
 go_wp2_with fail
 obtain ⟨W, hW⟩ : ∃ W, ((w.alloc (.cells #[.bool m1, .slice a1 l1 c1, .slice a2 l2 c2] 133)).alloc (.cells #[.bool m2, .slice a3 l3 c3, .slice a4 l4 c4] 133)).alloc (.cells #[.bool false, .slice none 0 0, .slice none 0 0] 133) = W := ⟨_, rfl⟩
 have T := hid (Three.mk' hW)
 rw [hW]
 clear hW
 have hS := T.out.cells (Below.refl _ _).drew
 have B0 := hid (T.out.below.drew)
 have C0 := hid ((Below.refl W.heap.size W).drew)
 refine held_plain [0, 1] 3 (twoF w.heap.size m1 m2 (.slice a1 l1 c1) (.slice a2 l2 c2) (.slice a3 l3 c3) (.slice a4 l4 c4)) (by kernel_rfl) (by kernel_rfl) (by kernel_rfl) (by kernel_rfl) hS ?_
 iterate 2
  refine ⟨_, rfl, ?_⟩
  apply Exists.intro
  refine ⟨.inl ⟨by rfl, ?_⟩, ?_⟩
  ·(intro W' hW'; obtain ⟨q1, q2, q3, q4, q5, q6⟩ := hW'; go_simp; try (with_reducible rfl))
  (dsimp only [Act.put]; try simp only [List.setIfInBounds_toArray, List.set_cons_zero, List.set_cons_succ])
 clear hS
 refine held_one (i := 2) (by kernel_rfl) (by rfl) (by rfl) ?_
 go_wp2_with fail
 refine (F1 _ _ (HQ'.out.call B0.out)).out.mono ?_; rintro e w1 ⟨⟨v1, rfl, hv1⟩, hb1⟩
 have B1 := hid (B0.out.trans (hb1.mono B0.out.size)); have C1 := hid (bnext C0.out hb1); have V1 := hid hv1
 clear hb1 hv1
 go_wp2_with fail
 refine ⟨T.out.cells C1.out, ?_⟩
 refine held_one (i := 3) (by kernel_rfl) (by rfl) (by rfl) ?_
 go_wp2_with fail
 refine (F2 _ _ _ (HP.out.call B1.out) V1.out).out.mono ?_; rintro e w3 ⟨⟨v3, rfl, hv3⟩, hb3⟩
 have B3 := hid (B1.out.trans (hb3.mono B1.out.size)); have C3 := hid (bnext C1.out hb3)
 clear hb3
 obtain ⟨N3, D3, rfl, hN3, hD3⟩ := hv3.ex
 obtain ⟨a5, c5, rfl, _⟩ := hN3.openI
 obtain ⟨a6, c6, rfl, _⟩ := hD3.openI
 obtain ⟨k5, hk5⟩ : ∃ k, (limbs Q.num.natAbs).length = k := ⟨_, rfl⟩
 obtain ⟨k6, hk6⟩ : ∃ k, (limbs Q.den).length = k := ⟨_, rfl⟩
 obtain ⟨mq, hmq⟩ : ∃ m, decide (Q.num < 0) = m := ⟨_, rfl⟩
 rw [hk5] at hN3 ⊢
 rw [hk6] at hD3 ⊢
 rw [hmq]
 have HN3 := hid hN3; have HD3 := hid hD3; have HMQ := hid hmq
 have Z := hid (T.out.b2.call C3.out)
 have t0 := Z.out.cell 0
 have t1 := Z.out.cell 1
 have t2 := Z.out.cell 2
 have t3 := Z.out.free 0
 have t4 := Z.out.free 1
 have t5 := Z.out.free 2
 simp at t0 t1 t2
 clear hv3 hN3 hD3 hk5 hk6 hmq
 go_wp2_with fail
 refine ⟨T.out.cells C3.out, ?_⟩
 refine held_one (i := 4) (by kernel_rfl) (by rfl) (by rfl) ?_
 go_wp2_with fail
 refine ⟨T.out.stored C3.out _ _ _, ?_⟩
 refine wpAnyH_done (by kernel_rfl) ?_ _
 simp only [Only]
 obtain ⟨s1, s2⟩ := set3 Z.out mq a5 a6 k5 c5 k6 c6
 have f0 := s2.cell 0
 have f1 := s2.cell 1
 have f2 := s2.cell 2
 simp at f0 f1 f2
 clear t0 t1 t2 t3 t4 t5
 go_wp2_with fail
 refine bodyPost_ret (v := .agg #[.bool mq, .slice a5 k5 c5, .slice a6 k6 c6]) (by simp [results, Tryz.results138, go_sem, f0, f1, f2]) rfl ⟨⟨_, rfl, ⟨.slice a5 k5 c5, .slice a6 k6 c6, by rw [HMQ.out], s1 _ _ _ HN3.out, s1 _ _ _ HD3.out⟩⟩, ?_⟩
 exact ((B3.out.setCell (by simp; omega) _).setCell (by simp; omega) _).setCell (by simp; omega) _
open Go.Shelf
open Go.Lib (decDigits nDigits)
theorem q_both (w : World) (s t : ByteArray) (F : Nat) (R : ByteArray) (x : Int) (hs : s.size ≤ 1000000) (ht : t.size ≤ 1000000) (hL : Lay w)
 (hen : ∀ args w, (callFunc F args).run Tryz.prog w = .ok (.enter F args) w)
 (hF : ∀ W v u, qE s = 0 → qE t = 0 → IsQ .u64 W v (vQ s) → IsQ .u64 W u (vQ t) → Lay W → Calls Tryz.prog F #[v, u] W fun e w' => e = .returned (.tuple #[.string R, .int .i64 x]) ∧ Below W.heap.size W w') :
 Calls Tryz.prog 131 #[.string s, .string t, .func (.func F) #[] #[]] w fun e w' => e = .returned (.tuple #[.string (tB R s t), .int .i64 (tE x s t)]) ∧ Below w.heap.size w w' := by
 have HF := hid hF
 have HL := hid hL
 have HEN := hid hen
 have HT := hid ht
 have b1 := hid ((Below.refl w.heap.size w).alloc (Nat.le_refl _) (.cells #[.string t] 22))
 obtain ⟨w1, hw1⟩ : ∃ w1, w.alloc (.cells #[.string t] 22) = w1 := ⟨_, rfl⟩
 obtain ⟨g1, hg1⟩ : ∃ g, w.heap.size = g := ⟨_, rfl⟩
 have X1 := hid (Blk.new w #[.string t] 22)
 rw [hw1] at b1
 rw [hw1, hg1] at X1
 have b2 := hid ((Below.refl w1.heap.size w1).alloc (Nat.le_refl _) (.cells #[.func (.func F) #[] #[]] 159))
 obtain ⟨w2, hw2⟩ : ∃ w2, w1.alloc (.cells #[.func (.func F) #[] #[]] 159) = w2 := ⟨_, rfl⟩
 have X2 := hid (Blk.new w1 #[.func (.func F) #[] #[]] 159)
 have X12 := hid (X1.out.call b2.out)
 have y2 := hid (bnext b1.out b2.out)
 have hg2 : w1.heap.size = g1 + 1 := by rw [← hw1, ← hg1]; simp
 rw [hw2] at b2 X12 y2
 rw [hw2, hg2] at X2
 have L2 := hid (HL.out.call y2.out)
 have W2 := hid (q_with w2 s 189 #[.pointer (some ⟨g1, 0, none⟩), .pointer (some ⟨g1 + 1, 0, none⟩)] (wB R t) (wE x t) hs L2.out (enters_of Tryz.func189 (by kernel_rfl) rfl)
  (fun W v hq hb hv hLW => by
   have hX1 := (X12.out.call hb).cell 0
   have hX2 := (X2.out.call hb).cell 0
   exact q_both1 W v t (vQ s) F g1 (g1 + 1) R x HT.out hv hLW HEN.out hX1 hX2 (fun W v u h0 h1 h2 h3 => HF.out W v u hq h0 h1 h2 h3)))
 have HW1 := hid hw1; have HW2 := hid hw2; have HG1 := hid hg1
 clear hF hL hen hs ht hw1 hw2 hg1 hg2 b1
 go_enter Tryz.func131, Tryz.ntmps131
 go_wp2_with fail
 have hw1 := HW1.out; have hw2 := HW2.out; have hg1 := HG1.out
 rw [hw1, hg1, hw2]
 refine W2.out.mono ?_; rintro e w3 ⟨rfl, hb3⟩
 have y3 := hid (bnext y2.out hb3)
 clear hb3 hw1 hw2 hg1
 go_wp2_with fail
 go_ret2
 exact ⟨rfl, by have := y3.out; exact this⟩
structure Sml (K : Nat) (q : Rat) : Prop where
 n : (limbs q.num.natAbs).length ≤ K
 d : (limbs q.den).length ≤ K
theorem sml_vQ {s : ByteArray} (h : qE s = 0) : Sml 1000 (vQ s) := by
 obtain ⟨-, e2, e3⟩ := vQ_ok h
 obtain ⟨-, -, -, l1, l2, -⟩ := valid h
 exact ⟨by rw [e2]; exact Nat.le_trans (limbs_of_digits l1) (by omega), by rw [e3]; exact Nat.le_trans (limbs_of_digits l2) (by omega)⟩
theorem Sml.up {K L : Nat} {q : Rat} (h : Sml K q) (hl : K ≤ L) : Sml L q := ⟨Nat.le_trans h.n hl, Nat.le_trans h.d hl⟩
theorem sml_neg {K : Nat} {q : Rat} (h : Sml K q) : Sml K (-q) := ⟨by rw [Rat.neg_num, Int.natAbs_neg]; exact h.n, by rw [Rat.neg_den]; exact h.d⟩
theorem sml_mk {K : Nat} {z : Int} {d : Nat} (hd : 0 < d) (h1 : (limbs z.natAbs).length ≤ K) (h2 : (limbs d).length ≤ K) : Sml K (mkRat z d) := by
 refine ⟨?_, ?_⟩
 ·rw [Rat.num_mkRat, if_neg (by omega)]
  refine Nat.le_trans (limbs_length_mono ?_) h1
  exact Int.natAbs_ediv_le_natAbs _ _
 ·rw [Rat.den_mkRat, if_neg (by omega)]
  exact Nat.le_trans (limbs_length_mono (Nat.div_le_self _ _)) h2
theorem sml_mulK {K L : Nat} {p q : Rat} (hp : Sml K p) (hq : Sml L q) : Sml (K + L) (p * q) := by
 rw [← qmk_mul]
 unfold qmk
 exact sml_mk (Nat.mul_pos p.den_pos q.den_pos) (by rw [sgn_natAbs]; exact limbs_mul hp.n hq.n) (limbs_mul hp.d hq.d)
theorem sml_addK {K L : Nat} {p q : Rat} (hp : Sml K p) (hq : Sml L q) : Sml (K + L + (K + L) + 1) (p + q) := by
 rw [q_add]
 refine sml_mk (Nat.mul_pos p.den_pos q.den_pos) ?_ (Nat.le_trans (limbs_mul hp.d hq.d) (by omega))
 refine Nat.le_trans (limbs_length_mono (sgn_abs_le _ _ _ _)) ?_
 exact Nat.le_trans (len_add (limbs_mul hp.n hq.d) (limbs_mul hq.n hp.d)) (by omega)
theorem sml_mul {p q : Rat} (hp : Sml 1000 p) (hq : Sml 1000 q) : Sml 10000 (p * q) := (sml_mulK hp hq).up (by omega)
theorem sml_add {p q : Rat} (hp : Sml 1000 p) (hq : Sml 1000 q) : Sml 10000 (p + q) := (sml_addK hp hq).up (by omega)
theorem sml_sub {p q : Rat} (hp : Sml 1000 p) (hq : Sml 1000 q) : Sml 10000 (p - q) := by rw [Rat.sub_eq_add_neg]; exact sml_add hp (sml_neg hq)
theorem t2B {f : Rat → Rat → Rat} {s t : ByteArray} : tB (outB (f (vQ s) (vQ t))) s t = op2B f s t := by
 unfold tB wB op2B
 by_cases h1 : qE s = 0 <;> by_cases h2 : qE t = 0 <;> simp [h1, h2]
theorem t2E {f : Rat → Rat → Rat} {s t : ByteArray} : tE (outE (f (vQ s) (vQ t))) s t = op2E f s t := by
 unfold tE wE op2E
 by_cases h1 : qE s = 0 <;> by_cases h2 : qE t = 0 <;> simp [h1, h2]
theorem q_Mul1 (w : World) (v u : Value) (p q : Rat) (hp : IsQ .u64 w v p) (hq : IsQ .u64 w u q) (sp : Sml 1000 p) (sq : Sml 1000 q) (hL : Lay w) :
 Calls Tryz.prog 132 #[v, u] w fun e w' => e = .returned (.tuple #[.string (outB (p * q)), .int .i64 (outE (p * q))]) ∧ Below w.heap.size w w' := by
 have F1 := fun V v u hv hu => hid (f_Mul V v u p q hv hu (Nat.le_trans sp.n (by omega)) (Nat.le_trans sp.d (by omega)) (Nat.le_trans sq.n (by omega)) (Nat.le_trans sq.d (by omega)))
 have SQ := sml_mul sp sq
 have F2 := fun V v hv hV => hid (f_Num V v (p * q) hv (Nat.le_trans SQ.n (by omega)) (Nat.le_trans SQ.d (by omega)) hV)
 obtain ⟨Q, hQ⟩ : ∃ Q, p * q = Q := ⟨_, rfl⟩
 rw [hQ] at F1 F2 ⊢
 have HL := hid hL
 obtain ⟨N1, D1, rfl, hn1, hd1⟩ := hp.ex
 obtain ⟨N2, D2, rfl, hn2, hd2⟩ := hq.ex
 obtain ⟨a1, c1, rfl, _⟩ := hn1.openI
 obtain ⟨a2, c2, rfl, _⟩ := hd1.openI
 obtain ⟨a3, c3, rfl, _⟩ := hn2.openI
 obtain ⟨a4, c4, rfl, _⟩ := hd2.openI
 obtain ⟨k1, hk1⟩ : ∃ k, (limbs p.num.natAbs).length = k := ⟨_, rfl⟩
 obtain ⟨k2, hk2⟩ : ∃ k, (limbs p.den).length = k := ⟨_, rfl⟩
 obtain ⟨k3, hk3⟩ : ∃ k, (limbs q.num.natAbs).length = k := ⟨_, rfl⟩
 obtain ⟨k4, hk4⟩ : ∃ k, (limbs q.den).length = k := ⟨_, rfl⟩
 obtain ⟨m1, hm1⟩ : ∃ m, decide (p.num < 0) = m := ⟨_, rfl⟩
 obtain ⟨m2, hm2⟩ : ∃ m, decide (q.num < 0) = m := ⟨_, rfl⟩
 rw [hk1, hk2, hm1] at hp ⊢
 rw [hk3, hk4, hm2] at hq ⊢
 have X1 := hid (Blk.new w #[.bool m1, .slice a1 k1 c1, .slice a2 k2 c2] 133)
 have b1 := hid ((Below.refl w.heap.size w).alloc (Nat.le_refl _) (.cells #[.bool m1, .slice a1 k1 c1, .slice a2 k2 c2] 133))
 have Y1 := hid (X1.out.alloc (.cells #[.bool m2, .slice a3 k3 c3, .slice a4 k4 c4] 133))
 have X2 := hid (Blk.new (w.alloc (.cells #[.bool m1, .slice a1 k1 c1, .slice a2 k2 c2] 133)) #[.bool m2, .slice a3 k3 c3, .slice a4 k4 c4] 133)
 have b2 := hid (b1.out.alloc b1.out.size (.cells #[.bool m2, .slice a3 k3 c3, .slice a4 k4 c4] 133))
 have P2 := hid (hp.call b2.out)
 have Q2 := hid (hq.call b2.out)
 have r0 := Y1.out.cell 0
 have r1 := Y1.out.cell 1
 have r2 := Y1.out.cell 2
 have s0 := X2.out.cell 0
 have s1 := X2.out.cell 1
 have s2 := X2.out.cell 2
 simp at r0 r1 r2 s0 s1 s2
 clear hk1 hk2 hk3 hk4 hm1 hm2 hn1 hn2 hd1 hd2 hp hq hL sp sq SQ hQ
 go_enter Tryz.func132, Tryz.ntmps132
 go_wp2_with fail
 refine (F1 _ _ _ P2.out Q2.out).out.mono ?_; rintro e w3 ⟨⟨v3, rfl, hv3⟩, hb3⟩
 have y3 := hid (bnext b2.out hb3)
 obtain ⟨N3, D3, rfl, hn3, hd3⟩ := hv3.ex
 obtain ⟨a5, c5, rfl, _⟩ := hn3.openI
 obtain ⟨a6, c6, rfl, _⟩ := hd3.openI
 obtain ⟨k5, hk5⟩ : ∃ k, (limbs Q.num.natAbs).length = k := ⟨_, rfl⟩
 obtain ⟨k6, hk6⟩ : ∃ k, (limbs Q.den).length = k := ⟨_, rfl⟩
 obtain ⟨m3, hm3⟩ : ∃ m, decide (Q.num < 0) = m := ⟨_, rfl⟩
 rw [hk5, hk6, hm3] at hv3 ⊢
 have V3 := hid hv3
 clear hb3 hv3 hn3 hd3 hk5 hk6 hm3
 go_wp2_with fail
 refine (F2 _ _ V3.out (HL.out.call y3.out)).out.mono ?_; rintro e w4 ⟨rfl, hb4⟩
 have y4 := hid (bnext y3.out hb4); clear hb4
 go_wp2_with fail
 go_ret2
 exact ⟨rfl, y4.out⟩
theorem q_Mul (w : World) (s t : ByteArray) (hs : s.size ≤ 1000000) (ht : t.size ≤ 1000000) (hL : Lay w) :
 Calls Tryz.prog 82 #[.string s, .string t] w fun e w' => e = .returned (.tuple #[.string (op2B (· * ·) s t), .int .i64 (op2E (· * ·) s t)]) ∧ Below w.heap.size w w' := by
 have H := hid (q_both w s t 132 (outB (vQ s * vQ t)) (outE (vQ s * vQ t)) hs ht hL (enters_of Tryz.func132 (by kernel_rfl) rfl)
  (fun W v u h1 h2 hv hu hLW => q_Mul1 W v u _ _ hv hu (sml_vQ h1) (sml_vQ h2) hLW))
 rw [t2B, t2E (f := (· * ·))] at H
 obtain ⟨B, hB⟩ : ∃ B, op2B (· * ·) s t = B := ⟨_, rfl⟩
 obtain ⟨E, hE⟩ : ∃ E, op2E (· * ·) s t = E := ⟨_, rfl⟩
 rw [hB, hE] at H ⊢
 clear hB hE hs ht hL
 go_enter Tryz.func82, Tryz.ntmps82
 go_wp2_with fail
 refine H.out.mono ?_; rintro e w1 ⟨rfl, hb1⟩
 have y1 := hid hb1; clear hb1
 go_wp2_with fail
 go_ret2
 exact ⟨rfl, y1.out⟩
theorem q_Add1 (w : World) (v u : Value) (p q : Rat) (hp : IsQ .u64 w v p) (hq : IsQ .u64 w u q) (sp : Sml 1000 p) (sq : Sml 1000 q) (hL : Lay w) :
 Calls Tryz.prog 134 #[v, u] w fun e w' => e = .returned (.tuple #[.string (outB (p + q)), .int .i64 (outE (p + q))]) ∧ Below w.heap.size w w' := by
 have F1 := fun V v u hv hu => hid (f_Add V v u p q hv hu (Nat.le_trans sp.n (by omega)) (Nat.le_trans sp.d (by omega)) (Nat.le_trans sq.n (by omega)) (Nat.le_trans sq.d (by omega)))
 have SQ := sml_add sp sq
 have F2 := fun V v hv hV => hid (f_Num V v (p + q) hv (Nat.le_trans SQ.n (by omega)) (Nat.le_trans SQ.d (by omega)) hV)
 obtain ⟨Q, hQ⟩ : ∃ Q, p + q = Q := ⟨_, rfl⟩
 rw [hQ] at F1 F2 ⊢
 have HL := hid hL
 obtain ⟨N1, D1, rfl, hn1, hd1⟩ := hp.ex
 obtain ⟨N2, D2, rfl, hn2, hd2⟩ := hq.ex
 obtain ⟨a1, c1, rfl, _⟩ := hn1.openI
 obtain ⟨a2, c2, rfl, _⟩ := hd1.openI
 obtain ⟨a3, c3, rfl, _⟩ := hn2.openI
 obtain ⟨a4, c4, rfl, _⟩ := hd2.openI
 obtain ⟨k1, hk1⟩ : ∃ k, (limbs p.num.natAbs).length = k := ⟨_, rfl⟩
 obtain ⟨k2, hk2⟩ : ∃ k, (limbs p.den).length = k := ⟨_, rfl⟩
 obtain ⟨k3, hk3⟩ : ∃ k, (limbs q.num.natAbs).length = k := ⟨_, rfl⟩
 obtain ⟨k4, hk4⟩ : ∃ k, (limbs q.den).length = k := ⟨_, rfl⟩
 obtain ⟨m1, hm1⟩ : ∃ m, decide (p.num < 0) = m := ⟨_, rfl⟩
 obtain ⟨m2, hm2⟩ : ∃ m, decide (q.num < 0) = m := ⟨_, rfl⟩
 rw [hk1, hk2, hm1] at hp ⊢
 rw [hk3, hk4, hm2] at hq ⊢
 have X1 := hid (Blk.new w #[.bool m1, .slice a1 k1 c1, .slice a2 k2 c2] 133)
 have b1 := hid ((Below.refl w.heap.size w).alloc (Nat.le_refl _) (.cells #[.bool m1, .slice a1 k1 c1, .slice a2 k2 c2] 133))
 have Y1 := hid (X1.out.alloc (.cells #[.bool m2, .slice a3 k3 c3, .slice a4 k4 c4] 133))
 have X2 := hid (Blk.new (w.alloc (.cells #[.bool m1, .slice a1 k1 c1, .slice a2 k2 c2] 133)) #[.bool m2, .slice a3 k3 c3, .slice a4 k4 c4] 133)
 have b2 := hid (b1.out.alloc b1.out.size (.cells #[.bool m2, .slice a3 k3 c3, .slice a4 k4 c4] 133))
 have P2 := hid (hp.call b2.out)
 have Q2 := hid (hq.call b2.out)
 have r0 := Y1.out.cell 0
 have r1 := Y1.out.cell 1
 have r2 := Y1.out.cell 2
 have s0 := X2.out.cell 0
 have s1 := X2.out.cell 1
 have s2 := X2.out.cell 2
 simp at r0 r1 r2 s0 s1 s2
 clear hk1 hk2 hk3 hk4 hm1 hm2 hn1 hn2 hd1 hd2 hp hq hL sp sq SQ hQ
 go_enter Tryz.func134, Tryz.ntmps134
 go_wp2_with fail
 refine (F1 _ _ _ P2.out Q2.out).out.mono ?_; rintro e w3 ⟨⟨v3, rfl, hv3⟩, hb3⟩
 have y3 := hid (bnext b2.out hb3)
 obtain ⟨N3, D3, rfl, hn3, hd3⟩ := hv3.ex
 obtain ⟨a5, c5, rfl, _⟩ := hn3.openI
 obtain ⟨a6, c6, rfl, _⟩ := hd3.openI
 obtain ⟨k5, hk5⟩ : ∃ k, (limbs Q.num.natAbs).length = k := ⟨_, rfl⟩
 obtain ⟨k6, hk6⟩ : ∃ k, (limbs Q.den).length = k := ⟨_, rfl⟩
 obtain ⟨m3, hm3⟩ : ∃ m, decide (Q.num < 0) = m := ⟨_, rfl⟩
 rw [hk5, hk6, hm3] at hv3 ⊢
 have V3 := hid hv3
 clear hb3 hv3 hn3 hd3 hk5 hk6 hm3
 go_wp2_with fail
 refine (F2 _ _ V3.out (HL.out.call y3.out)).out.mono ?_; rintro e w4 ⟨rfl, hb4⟩
 have y4 := hid (bnext y3.out hb4); clear hb4
 go_wp2_with fail
 go_ret2
 exact ⟨rfl, y4.out⟩
theorem q_Add (w : World) (s t : ByteArray) (hs : s.size ≤ 1000000) (ht : t.size ≤ 1000000) (hL : Lay w) :
 Calls Tryz.prog 83 #[.string s, .string t] w fun e w' => e = .returned (.tuple #[.string (op2B (· + ·) s t), .int .i64 (op2E (· + ·) s t)]) ∧ Below w.heap.size w w' := by
 have H := hid (q_both w s t 134 (outB (vQ s + vQ t)) (outE (vQ s + vQ t)) hs ht hL (enters_of Tryz.func134 (by kernel_rfl) rfl)
  (fun W v u h1 h2 hv hu hLW => q_Add1 W v u _ _ hv hu (sml_vQ h1) (sml_vQ h2) hLW))
 rw [t2B, t2E (f := (· + ·))] at H
 obtain ⟨B, hB⟩ : ∃ B, op2B (· + ·) s t = B := ⟨_, rfl⟩
 obtain ⟨E, hE⟩ : ∃ E, op2E (· + ·) s t = E := ⟨_, rfl⟩
 rw [hB, hE] at H ⊢
 clear hB hE hs ht hL
 go_enter Tryz.func83, Tryz.ntmps83
 go_wp2_with fail
 refine H.out.mono ?_; rintro e w1 ⟨rfl, hb1⟩
 have y1 := hid hb1; clear hb1
 go_wp2_with fail
 go_ret2
 exact ⟨rfl, y1.out⟩
theorem q_Sub1 (w : World) (v u : Value) (p q : Rat) (hp : IsQ .u64 w v p) (hq : IsQ .u64 w u q) (sp : Sml 1000 p) (sq : Sml 1000 q) (hL : Lay w) :
 Calls Tryz.prog 137 #[v, u] w fun e w' => e = .returned (.tuple #[.string (outB (p - q)), .int .i64 (outE (p - q))]) ∧ Below w.heap.size w w' := by
 have F1 := fun V v u hv hu => hid (f_Sub V v u p q hv hu (Nat.le_trans sp.n (by omega)) (Nat.le_trans sp.d (by omega)) (Nat.le_trans sq.n (by omega)) (Nat.le_trans sq.d (by omega)))
 have SQ := sml_sub sp sq
 have F2 := fun V v hv hV => hid (f_Num V v (p - q) hv (Nat.le_trans SQ.n (by omega)) (Nat.le_trans SQ.d (by omega)) hV)
 obtain ⟨Q, hQ⟩ : ∃ Q, p - q = Q := ⟨_, rfl⟩
 rw [hQ] at F1 F2 ⊢
 have HL := hid hL
 obtain ⟨N1, D1, rfl, hn1, hd1⟩ := hp.ex
 obtain ⟨N2, D2, rfl, hn2, hd2⟩ := hq.ex
 obtain ⟨a1, c1, rfl, _⟩ := hn1.openI
 obtain ⟨a2, c2, rfl, _⟩ := hd1.openI
 obtain ⟨a3, c3, rfl, _⟩ := hn2.openI
 obtain ⟨a4, c4, rfl, _⟩ := hd2.openI
 obtain ⟨k1, hk1⟩ : ∃ k, (limbs p.num.natAbs).length = k := ⟨_, rfl⟩
 obtain ⟨k2, hk2⟩ : ∃ k, (limbs p.den).length = k := ⟨_, rfl⟩
 obtain ⟨k3, hk3⟩ : ∃ k, (limbs q.num.natAbs).length = k := ⟨_, rfl⟩
 obtain ⟨k4, hk4⟩ : ∃ k, (limbs q.den).length = k := ⟨_, rfl⟩
 obtain ⟨m1, hm1⟩ : ∃ m, decide (p.num < 0) = m := ⟨_, rfl⟩
 obtain ⟨m2, hm2⟩ : ∃ m, decide (q.num < 0) = m := ⟨_, rfl⟩
 rw [hk1, hk2, hm1] at hp ⊢
 rw [hk3, hk4, hm2] at hq ⊢
 have X1 := hid (Blk.new w #[.bool m1, .slice a1 k1 c1, .slice a2 k2 c2] 133)
 have b1 := hid ((Below.refl w.heap.size w).alloc (Nat.le_refl _) (.cells #[.bool m1, .slice a1 k1 c1, .slice a2 k2 c2] 133))
 have Y1 := hid (X1.out.alloc (.cells #[.bool m2, .slice a3 k3 c3, .slice a4 k4 c4] 133))
 have X2 := hid (Blk.new (w.alloc (.cells #[.bool m1, .slice a1 k1 c1, .slice a2 k2 c2] 133)) #[.bool m2, .slice a3 k3 c3, .slice a4 k4 c4] 133)
 have b2 := hid (b1.out.alloc b1.out.size (.cells #[.bool m2, .slice a3 k3 c3, .slice a4 k4 c4] 133))
 have P2 := hid (hp.call b2.out)
 have Q2 := hid (hq.call b2.out)
 have r0 := Y1.out.cell 0
 have r1 := Y1.out.cell 1
 have r2 := Y1.out.cell 2
 have s0 := X2.out.cell 0
 have s1 := X2.out.cell 1
 have s2 := X2.out.cell 2
 simp at r0 r1 r2 s0 s1 s2
 clear hk1 hk2 hk3 hk4 hm1 hm2 hn1 hn2 hd1 hd2 hp hq hL sp sq SQ hQ
 go_enter Tryz.func137, Tryz.ntmps137
 go_wp2_with fail
 refine (F1 _ _ _ P2.out Q2.out).out.mono ?_; rintro e w3 ⟨⟨v3, rfl, hv3⟩, hb3⟩
 have y3 := hid (bnext b2.out hb3)
 obtain ⟨N3, D3, rfl, hn3, hd3⟩ := hv3.ex
 obtain ⟨a5, c5, rfl, _⟩ := hn3.openI
 obtain ⟨a6, c6, rfl, _⟩ := hd3.openI
 obtain ⟨k5, hk5⟩ : ∃ k, (limbs Q.num.natAbs).length = k := ⟨_, rfl⟩
 obtain ⟨k6, hk6⟩ : ∃ k, (limbs Q.den).length = k := ⟨_, rfl⟩
 obtain ⟨m3, hm3⟩ : ∃ m, decide (Q.num < 0) = m := ⟨_, rfl⟩
 rw [hk5, hk6, hm3] at hv3 ⊢
 have V3 := hid hv3
 clear hb3 hv3 hn3 hd3 hk5 hk6 hm3
 go_wp2_with fail
 refine (F2 _ _ V3.out (HL.out.call y3.out)).out.mono ?_; rintro e w4 ⟨rfl, hb4⟩
 have y4 := hid (bnext y3.out hb4); clear hb4
 go_wp2_with fail
 go_ret2
 exact ⟨rfl, y4.out⟩
theorem q_Sub (w : World) (s t : ByteArray) (hs : s.size ≤ 1000000) (ht : t.size ≤ 1000000) (hL : Lay w) :
 Calls Tryz.prog 85 #[.string s, .string t] w fun e w' => e = .returned (.tuple #[.string (op2B (· - ·) s t), .int .i64 (op2E (· - ·) s t)]) ∧ Below w.heap.size w w' := by
 have H := hid (q_both w s t 137 (outB (vQ s - vQ t)) (outE (vQ s - vQ t)) hs ht hL (enters_of Tryz.func137 (by kernel_rfl) rfl)
  (fun W v u h1 h2 hv hu hLW => q_Sub1 W v u _ _ hv hu (sml_vQ h1) (sml_vQ h2) hLW))
 rw [t2B, t2E (f := (· - ·))] at H
 obtain ⟨B, hB⟩ : ∃ B, op2B (· - ·) s t = B := ⟨_, rfl⟩
 obtain ⟨E, hE⟩ : ∃ E, op2E (· - ·) s t = E := ⟨_, rfl⟩
 rw [hB, hE] at H ⊢
 clear hB hE hs ht hL
 go_enter Tryz.func85, Tryz.ntmps85
 go_wp2_with fail
 refine H.out.mono ?_; rintro e w1 ⟨rfl, hb1⟩
 have y1 := hid hb1; clear hb1
 go_wp2_with fail
 go_ret2
 exact ⟨rfl, y1.out⟩
theorem fd_plus (w : World) (s t : ByteArray) (hs : s.size ≤ 1000000) (ht : t.size ≤ 1000000) (hL : Lay w) :
 Calls Tryz.prog 32 #[.string s, .string t] w fun e w' => e = .returned (.string (op2B (· + ·) s t)) ∧ Below w.heap.size w w' := by
 have H := hid (q_Add w s t hs ht hL)
 obtain ⟨B, hB⟩ : ∃ B, op2B (· + ·) s t = B := ⟨_, rfl⟩
 obtain ⟨E, hE⟩ : ∃ E, op2E (· + ·) s t = E := ⟨_, rfl⟩
 rw [hB, hE] at H
 rw [hB]
 clear hs ht hL hB hE
 go_enter Tryz.func32, Tryz.ntmps32
 go_wp2_with fail
 refine H.out.mono ?_; rintro e w1 ⟨rfl, hb1⟩
 go_wp2_with fail
 go_ret
 exact ⟨rfl, hb1⟩
theorem fd_less (w : World) (s t : ByteArray) (hs : s.size ≤ 1000000) (ht : t.size ≤ 1000000) (hL : Lay w) :
 Calls Tryz.prog 34 #[.string s, .string t] w fun e w' => e = .returned (.string (op2B (· - ·) s t)) ∧ Below w.heap.size w w' := by
 have H := hid (q_Sub w s t hs ht hL)
 obtain ⟨B, hB⟩ : ∃ B, op2B (· - ·) s t = B := ⟨_, rfl⟩
 obtain ⟨E, hE⟩ : ∃ E, op2E (· - ·) s t = E := ⟨_, rfl⟩
 rw [hB, hE] at H
 rw [hB]
 clear hs ht hL hB hE
 go_enter Tryz.func34, Tryz.ntmps34
 go_wp2_with fail
 refine H.out.mono ?_; rintro e w1 ⟨rfl, hb1⟩
 go_wp2_with fail
 go_ret
 exact ⟨rfl, hb1⟩
theorem fd_times (w : World) (s t : ByteArray) (hs : s.size ≤ 1000000) (ht : t.size ≤ 1000000) (hL : Lay w) :
 Calls Tryz.prog 30 #[.string s, .string t] w fun e w' => e = .returned (.string (op2B (· * ·) s t)) ∧ Below w.heap.size w w' := by
 have H := hid (q_Mul w s t hs ht hL)
 obtain ⟨B, hB⟩ : ∃ B, op2B (· * ·) s t = B := ⟨_, rfl⟩
 obtain ⟨E, hE⟩ : ∃ E, op2E (· * ·) s t = E := ⟨_, rfl⟩
 rw [hB, hE] at H
 rw [hB]
 clear hs ht hL hB hE
 go_enter Tryz.func30, Tryz.ntmps30
 go_wp2_with fail
 refine H.out.mono ?_; rintro e w1 ⟨rfl, hb1⟩
 go_wp2_with fail
 go_ret
 exact ⟨rfl, hb1⟩
open Go.Maps
theorem own_base {W : World} {base base' : Nat} {e : TypeId} {k : Nat} {v : Value} {n : Nat} {xs : List Value} (h : W.ownsRow base e k v n xs) (hb : base' ≤ base) : W.ownsRow base' e k v n xs := by
 obtain ⟨h1, h2⟩ := h
 rcases h2 with h2 | ⟨g, cap, cur, a1, a2, a3⟩
 ·exact ⟨h1, .inl h2⟩
 ·exact ⟨h1, .inr ⟨g, cap, cur, a1, Nat.le_trans hb a2, a3⟩⟩
theorem zero_nums (w : World) : (zeroValue 60).run Tryz.prog w = .ok (.slice none 0 0) w := by kernel_rfl
theorem sum_look0 {H : Type} {w : World} {B : Nat} (h : w.ownsMap Tryz.prog 3 (sumE (H := H)) B 0 (.map [])) {k : Int} (hk : (Lit.int .i64 k).wf = true) :
 (Instr.lookup 61 (.map (some B)) (.int .i64 k) true).run Tryz.prog w = .ok (.tuple #[.slice none 0 0, .bool false]) w := by
 obtain ⟨v, ps, h1, h2⟩ := h.look_ok (int_keyed Tryz.underlying3) Tryz.underlying61 (zero_nums w) (zd := .lit (.bool false)) (zp := []) rfl (keyOf_int_mk Tryz.underlying3 hk)
 have e1 : Maps.has (DataW.map [] : DataW H) (.int .i64 k) = false := by simp [Maps.has_eq]
 have e2 : (DataW.map [] : DataW H).atKey (.int .i64 k) (.lit (.bool false)) = .lit (.bool false) := by simp [DataW.atKey]
 rw [e1] at h1
 rw [e2] at h2
 rw [sumE_nil h2] at h1
 exact h1
theorem sum_look1 {H : Type} {w : World} {B m gs n cs : Nat} {k : Int} (h : w.ownsMap Tryz.prog 3 (sumE (H := H)) B m ((DataW.map []).put (.int .i64 k) (sumD gs 0 n cs))) (hk : (Lit.int .i64 k).wf = true) :
 (Instr.lookup 61 (.map (some B)) (.int .i64 k) true).run Tryz.prog w = .ok (.tuple #[.slice (some ⟨gs, 0, none⟩) n cs, .bool true]) w := by
 obtain ⟨v, ps, h1, h2⟩ := h.look_ok (int_keyed Tryz.underlying3) Tryz.underlying61 (zero_nums w) (zd := .lit (.bool false)) (zp := []) rfl (keyOf_int_mk Tryz.underlying3 hk)
 rw [has_put_same isMap_empty (show WideAt.IsKeyLit (.int .i64 k) from trivial)] at h1
 rw [atKey_put_same isMap_empty (show WideAt.IsKeyLit (.int .i64 k) from trivial)] at h2
 rw [sumE_row h2] at h1
 exact h1
theorem fd_below {H : Type} (w : World) (bx bm bp n : Nat) (g : Int → Nat) (most : Int) (hn : n ≤ 32) (hg : ∀ v : Int, v < 0 → g v = 0) (hz : zS n g ≤ 2 ^ n) (hN : NoiS H w bx bm bp g n) (hL : Lay w) :
 Calls Tryz.prog 31 #[.pointer (some ⟨bx, 0, none⟩), .int .i64 most] w fun e w' => e = .returned (.string (dyB (cmC g n most) n)) ∧ NoiS H w' bx bm bp g n ∧ w.grownBy w' (some bm) := by
 have PP : ∀ (V : World) (i : Nat), i ≤ n → Lay V → Hid (Calls Tryz.prog 32 #[.string (dyB (cmS g i) n), .string (dyB (g (i : Int)) n)] V fun e w' => e = .returned (.string (dyB (cmS g (i + 1)) n)) ∧ Below V.heap.size V w') := fun V i hi hV => by
  have h1 := dyB_size (m := n) (cmS_le hg hz (show i ≤ n + 1 by omega)) (by omega)
  have h2 := dyB_size (m := n) (g_le hg hz (show ((i : Nat) : Int) ≤ n by omega)) (by omega)
  have := fd_plus V (dyB (cmS g i) n) (dyB (g (i : Int)) n) (by omega) (by omega) hV
  rw [cm_plus hg hz hi (by omega)] at this
  exact this
 obtain ⟨J, hJ⟩ : ∃ J : Nat, (max 0 (min most ((n : Int) + 1))).toNat = J := ⟨_, rfl⟩
 have hJ1 : J ≤ n + 1 := by omega
 have eJ : max 0 (min most ((n : Int) + 1)) = (J : Int) := by omega
 rw [cmC_at, hJ]
 have HJ1 := hid hJ1; have EJ := hid eJ; have HL := hid hL; have HX := hid hN.x; have HP := hid hN.p; have HNN := hid hn
 have EJ2 : Hid (max 0 (min most ((n + 1 : Nat) : Int)) = (J : Int)) := eJ
 have b1 : (0 : Int) ≤ (J : Int) := by omega
 have b2 : (J : Int) < ((n + 2 : Nat) : Int) := by omega
 have b2' : (J : Int) < (n : Int) + 1 + 1 := by omega
 have wfk : (Lit.int .i64 ((n + 1 : Nat) : Int)).wf = true := WalkArith.wf_i64 ⟨by omega, by omega⟩
 have WFK := hid wfk
 have r0 := HX.out.cell 0
 have r1 := HX.out.cell 1
 simp at r0 r1
 rcases hN.m with hm | ⟨gs, cs, hm, hrow, hne⟩
 ·have hlk : (Instr.lookup 61 (.map (some bm)) (.int .i64 ((n : Int) + 1)) true).run Tryz.prog w = .ok (.tuple #[.slice none 0 0, .bool false]) w := sum_look0 hm wfk
  have HM := hid hm
  obtain ⟨i0, hi, hz0, hz1, hz2⟩ := info_parts info_num
  clear hJ hJ1 eJ hL hN hm wfk hg hz b1 b2 b2'
  have wn32 : (n : Int) ≤ 32 := by omega
  clear hn
  have B1 : Hid (Below w.heap.size w (w.alloc (.cells #[.string ⟨#[48]⟩] 22))) := (Below.refl _ _).alloc (Nat.le_refl _) _
  have r2 := (HX.out.call B1.out).cell 0
  have r3 := (HX.out.call B1.out).cell 1
  simp only [List.getElem?_toArray, List.getElem?_cons_zero, List.getElem?_cons_succ] at r2 r3
  go_enter Tryz.func31, Tryz.ntmps31
  go_wp2_with fail
  have O1 : Hid ((w.alloc (.cells #[.string ⟨#[48]⟩] 22)).ownsRow w.heap.size 22 1 (.slice (some ⟨w.heap.size, 0, none⟩) 1 1) 1 (strs (cmL g n 0))) := by
   show World.ownsRow _ _ _ _ _ _ _
   rw [cmL_zero]
   exact owns_one (Blk.new w #[.string ⟨#[48]⟩] 22)
  clear r0 r1 r2 r3 hlk
  go_loopw [6, 8, 9, 32] (fun s6 s8 s9 s32 wr => ∃ i : Nat, s32 = .int .i64 (i : Nat) ∧ i ≤ n + 1 ∧ Hid (wr.ownsRow w.heap.size 22 1 s6 (i + 1) (strs (cmL g n i))) ∧ Hid (Below w.heap.size w wr)) (fun s6 s8 s9 s32 wr => n + 1 - (intOf s32).toNat)
  case atStart => exact ⟨0, rfl, Nat.zero_le _, O1, B1⟩
  case round =>
   obtain ⟨i, rfl, hi, hO, hB⟩ := hrel
   obtain ⟨gl, cl, rfl⟩ := ownsRow_succ hO.out
   by_cases hlt : i < n + 1
   ·have d1 : wr.cell? ⟨bp, i, none⟩ = some (.string (dyB (g (i : Int)) n)) := by
     rw [(HP.out.call hB.out).cell, List.getElem?_toArray]
     exact strs_get (prT_get (by omega))
    obtain ⟨o1, o2, o3, o4, -, -, -⟩ := own_slot hO.out
    have d2 := o4 i _ (strs_get (cmL_get (g := g) (n := n) (Nat.le_refl i)))
    have PPi := fun V hV => PP V i (by omega) hV
    have HSU := hid (cmL_succ g n i)
    obtain ⟨S, hS⟩ : ∃ S, dyB (cmS g i) n = S := ⟨_, rfl⟩
    obtain ⟨T, hT⟩ : ∃ S, dyB (g (i : Int)) n = S := ⟨_, rfl⟩
    obtain ⟨U, hU⟩ : ∃ S, dyB (cmS g (i + 1)) n = S := ⟨_, rfl⟩
    rw [hT] at d1
    rw [hS] at d2
    rw [hS, hT, hU] at PPi
    rw [hU] at HSU
    have b3 : (0 : Int) ≤ (i : Int) := by omega
    have b4 : (i : Int) < (n : Int) + 1 := by omega
    have b5 : (i : Int) < (i : Int) + 1 := by omega
    have b6 : (i : Int) < ((i + 1 : Nat) : Int) := by omega
    have wi : IntKind.i64.wrap ((i : Int) + 1) = ((i + 1 : Nat) : Int) := by rw [IntWalk.i64_in _ ⟨by omega, by omega⟩]; omega
    have O1b := hid o1
    clear hS hT hU o1 o2 o3 o4 hi hlt
    go_wp2_with fail
    refine (PPi _ (HL.out.call hB.out)).out.mono ?_; rintro e w2 ⟨rfl, hb2⟩
    have y2 := hid (bnext hB.out hb2)
    have O2 := hid (owns_call hO.out hb2)
    clear hb2 d1 d2
    go_wp2_with (at_builtin; refine wpList_append_own _ rfl _ _ 60 rfl w.heap.size 22 i0 (.string ⟨#[]⟩) 1 16 Tryz.underlying60 hi hz0 hz1 hz2 rfl (by decide) _ (i + 1) _ rfl (O2.out.alloc _) ⟨w2.heap.size, 0, none⟩ 1 1 [.string U] rfl rfl (cell_one_new w2 (.string U) 22) (by simp [Value.oneCell']) (by unfold maxLen; omega) (by omega) (by have := y2.out.size; simp; omega) ?_; intro v' w3 hown3 hgrow3 _)
    have hO3 := hid (show w3.ownsRow w.heap.size 22 1 v' (i + 1 + 1) (strs (cmL g n (i + 1))) by rw [HSU.out, strs_append]; exact hown3)
    have hB3 : Hid (Below w.heap.size w w3) := by
     refine (y2.out.alloc y2.out.size _).trans ⟨hgrow3.os, hgrow3.tape, hgrow3.output, hgrow3.size, fun k' hk' => hgrow3.block k' (by have := y2.out.size; simp; omega) (fun e => ?_)⟩
     have : k' = gl := by injection e
     have := O1b.out
     omega
    clear hown3 hgrow3
    go_wp2_with fail
    go_roundw
    case rel => exact ⟨i + 1, by go_num, by omega, hO3, hB3⟩
    case measure => simp [intOf] <;> omega
   ·obtain rfl : i = n + 1 := by omega
    obtain ⟨o1, o2, o3, o4, -, o6, -⟩ := own_slot hO.out
    have d2 := o4 J _ (strs_get (cmL_get (g := g) (n := n) (i := n + 1) HJ1.out))
    have HR := hid (Row.of_owns hO.out)
    have M1 := hid (HM.out.kept (below_grown hB.out none) (by simp))
    have hbm := HM.out.lt
    have hne : gl ≠ bm := by omega
    have r2 := (HX.out.call hB.out).cell 0
    have r3 := (HX.out.call hB.out).cell 1
    simp at r2 r3
    have q9 : decide ((n : Int) + 1 < (n : Int) + 1) = false := by simp
    have HNE := hid hne; have HGL := hid o1; have D2 := hid d2
    clear hlt hi o1 o2 o3 o4 o6 hbm hne d2
    go_wp2_with (at_mapUpdate; refine wpList_mapUpdate_own _ rfl _ _ _ 61 rfl 3 60 (int_keyed Tryz.underlying3) Tryz.underlying61 _ bm 0 _ rfl M1.out (by unfold maxLen; omega) _ _ (.int .i64 ((n + 1 : Nat) : Int)) rfl rfl (keyOf_int_mk Tryz.underlying3 WFK.out) (sumD gl 0 (n + 2) cl) [] rfl ?_; intro w4 hown4 hgrow4
                 have d4 := hgrow4.cell D2.out (by intro e; injection e with e; exact HNE.out (by first | exact e | exact e.symm | omega))
                 have eJ := EJ.out
                 have b1 : (0 : Int) ≤ (J : Int) := by omega
                 have b2 : (J : Int) < (n : Int) + 1 + 1 := by have := HJ1.out; omega
                 have b3 : (J : Int) < ((n + 1 + 1 : Nat) : Int) := by have := HJ1.out; omega
                 have HG4 := hid hgrow4; have HO4 := hid hown4
                 clear hgrow4 hown4)
    go_ret
    have hrow : ∀ r, some bm = some r → ∃ o : Obj, wr.heap[r]? = some o ∧ o.isCells = false := fun r e => by
     injection e with e
     subst e
     obtain ⟨es, ck, h, -⟩ := M1.out
     exact ⟨_, h, rfl⟩
    refine ⟨rfl, ⟨(HX.out.call hB.out).kept HG4.out hrow, (HP.out.call hB.out).kept HG4.out hrow, .inr ⟨gl, cl, HO4.out, own_base (hO.out.kept HG4.out (.inr fun e => HNE.out (by injection e))) (Nat.zero_le _), HNE.out⟩⟩, ?_⟩
    exact ⟨HG4.out.os.trans hB.out.os, HG4.out.tape.trans hB.out.tape, HG4.out.output.trans hB.out.output, Nat.le_trans hB.out.size HG4.out.size, fun k hk hne => (HG4.out.block k (Nat.lt_of_lt_of_le hk hB.out.size) hne).trans (hB.out.block k hk)⟩
 ·have hlk : (Instr.lookup 61 (.map (some bm)) (.int .i64 ((n : Int) + 1)) true).run Tryz.prog w = .ok (.tuple #[.slice (some ⟨gs, 0, none⟩) (n + 2) cs, .bool true]) w := sum_look1 hm wfk
  obtain ⟨a', c', e, k1, k2, k3⟩ := (Row.of_owns hrow).openS
  have HM := hid hm; have HROW := hid hrow; have HNE := hid hne
  obtain ⟨gr, orr, er, hgr, hcr⟩ := k3 J _ (cmL_get hJ1)
  simp only [Value.slice.injEq] at e
  obtain ⟨rfl, -, rfl⟩ := e
  simp only [Option.some.injEq, Addr.mk.injEq] at er
  obtain ⟨rfl, rfl, -⟩ := er
  rw [Nat.zero_add] at hcr
  obtain ⟨sJ, hsJ⟩ : ∃ s, dyB (cmS g J) n = s := ⟨_, rfl⟩
  rw [hsJ] at hcr ⊢
  rw [cmL_length] at k1
  clear hJ hJ1 hL hm wfk hg hz hn PP k3 hsJ hrow hne
  go_enter Tryz.func31, Tryz.ntmps31
  go_wp2_with fail
  go_ret
  exact ⟨rfl, ⟨HX.out, HP.out, .inr ⟨_, _, HM.out, HROW.out, HNE.out⟩⟩, ⟨rfl, rfl, rfl, Nat.le_refl _, fun _ _ _ => rfl⟩⟩
end Go.Proofs.YtckihjfkafdncaaGreatDoor
namespace Go.Proofs.YtckihjfkafdncaaGreatDoor
open Go.RowKit
def p3 (N D n i k s : Nat) (v : Int) : Nat := if (k : Int) - (i : Int) = v then sumN (fun s' => edn N D k s' * cw (n - s') (oneP N D i)) s else 0
def q3 (N D n i k : Nat) (v : Int) : Nat := sumN (fun k' => p3 N D n i k' (n + 1) v) k
def t3 (N D n i : Nat) (v : Int) : Nat := sumN (fun i' => q3 N D n i' (n + 1) v) i
def c3 (N D n i k s : Nat) (v : Int) : Nat := t3 N D n i v + q3 N D n i k v + p3 N D n i k s v
open Go.Lib (decDigits nDigits)
section
variable {N D : Nat} (h : N < D)
include h
def o3 (N D n i j : Nat) : Nat := if n ≤ j ∧ j < n + i then gV N D false n ((j : Int) - n) else 0
omit h in
end
structure PkOk (c : List Int) (a : ByteArray) (b : List ByteArray) : Prop where
 pos : 1 ≤ c.length
 le : c.length ≤ 256
 rng : ∀ x ∈ c, -1125899906842624 ≤ x ∧ x ≤ 1125899906842624
 a : gPE a = 0
 len : b.length = c.length
 b : ∀ s ∈ b, chkE s = 0
theorem qnE_ok {c : List Int} {a : ByteArray} (h : qnE c a = 0) : 1 ≤ c.length ∧ c.length ≤ 256 ∧ (∀ x ∈ c, -1125899906842624 ≤ x ∧ x ≤ 1125899906842624) ∧ gPE a = 0 := by
 unfold qnE at h
 split at h
 ·rename_i h1; exact absurd h h1
 ·rename_i h1
  have h1 : ctE c = 0 := Classical.byContradiction h1
  unfold ctE at h1
  split at h1
  ·cases h1
  ·rename_i h2
   unfold zE at h1
   split at h1
   ·cases h1
   ·rename_i h3
    split at h1
    ·cases h1
    ·rename_i h4
     refine ⟨by omega, by omega, fun x hx => ?_, h⟩
     have : wildB x = false := by
      cases hw : wildB x
      ·rfl
      ·exact absurd (List.any_eq_true.2 ⟨x, hx, hw⟩) h4
     unfold wildB at this
     simp only [Bool.or_eq_false_iff, decide_eq_false_iff_not] at this
     omega
theorem wdE_ok {b : List ByteArray} {m : Int} (h : wdE b m = 0) : (b.length : Int) = m ∧ ∀ s ∈ b, chkE s = 0 := by
 unfold wdE at h
 split at h
 ·rename_i h1; exact ⟨h1, bsE_zero.1 h⟩
 ·cases h
theorem pkE_ok {c : List Int} {a : ByteArray} {b : List ByteArray} (h : pkE c a b = 0) : PkOk c a b := by
 unfold pkE at h
 split at h
 ·rename_i h1; exact absurd h h1
 ·rename_i h1
  have h1 : qnE c a = 0 := Classical.byContradiction h1
  obtain ⟨q1, q2, q3, q4⟩ := qnE_ok h1
  obtain ⟨w1, w2⟩ := wdE_ok h
  exact ⟨q1, q2, q3, q4, by omega, w2⟩
end Go.Proofs.YtckihjfkafdncaaGreatDoor
namespace Go.Proofs.YtckihjfkafdncaaGreatDoor
open Go.RowKit
open Go.Shelf
theorem own_setK {W : World} {base : Nat} {e : TypeId} {k g n cap : Nat} {xs : List Value} (h : W.ownsRow base e k (.slice (some ⟨g, 0, none⟩) n cap) n xs) (i : Nat) (x : Value) : (W.setCell ⟨g, i, none⟩ x).ownsRow base e k (.slice (some ⟨g, 0, none⟩) n cap) n (xs.set i x) := by
 rcases h.2 with ⟨e1, _⟩ | ⟨g', cap', cur, e1, hb, hg, h1, h2, h3, h4⟩
 ·simp at e1
 ·simp at e1
  obtain ⟨rfl, rfl⟩ := e1
  refine ⟨by rw [List.length_set]; exact h.1, .inr ⟨g, cap, cur.setIfInBounds i x, rfl, hb, Blk.set hg i x, h1, h2, by simpa using h3, ?_⟩⟩
  rw [Array.toList_setIfInBounds, List.take_set, h4]
theorem own_slotK {W : World} {base : Nat} {e : TypeId} {k g n cap : Nat} {xs : List Value} (h : W.ownsRow base e k (.slice (some ⟨g, 0, none⟩) n cap) n xs) : base ≤ g ∧ g < W.heap.size ∧ (∀ i, W.frozen? ⟨g, i, none⟩ = false) ∧ (∀ (i : Nat) (x : Value), xs[i]? = some x → W.cell? ⟨g, i, none⟩ = some x) ∧ cap ≤ 9223372036854775807 ∧ n ≤ cap := by
 have hh := h
 rcases h.2 with ⟨e1, _⟩ | ⟨g', cap', cur, e1, hb, hg, h1, h2, h3, h4⟩
 ·simp at e1
 ·simp at e1
  obtain ⟨rfl, rfl⟩ := e1
  refine ⟨hb, (Array.getElem?_eq_some_iff.1 hg).1, fun i => Blk.free hg i, fun i x hx => ?_, by unfold maxLen at h2; omega, h1⟩
  have := hh.cells rfl i x hx
  rw [Addr.add_lit, Nat.zero_add] at this
  exact this
theorem own_cutK {W : World} {base : Nat} {e : TypeId} {k g n m cap : Nat} {xs : List Value} (h : W.ownsRow base e k (.slice (some ⟨g, 0, none⟩) n cap) n xs) (hm : m ≤ n) : W.ownsRow base e k (.slice (some ⟨g, 0, none⟩) m cap) m (xs.take (m * k)) := by
 have hl := h.1
 rcases h.2 with ⟨e1, _⟩ | ⟨g', cap', cur, e1, hb, hg, h1, h2, h3, h4⟩
 ·simp at e1
 ·simp at e1
  obtain ⟨rfl, rfl⟩ := e1
  have hk : m * k ≤ n * k := Nat.mul_le_mul_right k hm
  refine ⟨by rw [List.length_take, hl]; omega, .inr ⟨g, cap, cur, rfl, hb, hg, by omega, h2, h3, ?_⟩⟩
  rw [← h4, List.take_take, Nat.min_eq_left hk]
theorem own_setCells {base : Nat} {e : TypeId} {k g n cap : Nat} : ∀ (vs : List Value) (o : Nat) {W : World} {xs : List Value}, W.ownsRow base e k (.slice (some ⟨g, 0, none⟩) n cap) n xs → ∃ ys, (W.setCells g o vs).ownsRow base e k (.slice (some ⟨g, 0, none⟩) n cap) n ys ∧ ys.take o = xs.take o
 | [], o, W, xs, h => ⟨xs, h, rfl⟩
 | v :: r, o, W, xs, h => by
  obtain ⟨ys, h1, h2⟩ := own_setCells r (o + 1) (own_setK h o v)
  refine ⟨ys, h1, ?_⟩
  have h3 := congrArg (List.take o) h2
  rw [List.take_take, List.take_take, Nat.min_eq_left (by omega)] at h3
  rw [h3, List.take_set, List.set_eq_of_length_le (by rw [List.length_take]; omega)]
theorem below_setCells {base g : Nat} (hb : base ≤ g) : ∀ (vs : List Value) (o : Nat) {w W : World}, Below base w W → Below base w (W.setCells g o vs)
 | [], _, _, _, h => h
 | v :: r, o, w, W, h => below_setCells hb r (o + 1) (h.setCell hb v)
theorem run_clear2 (w : World) (t e ty : TypeId) (z : Value) (x y : Value) (ht : Tryz.prog.underlying t = some (.slice e)) (hv : ∀ w, (zeroValue e).run Tryz.prog w = .ok z w) (hz : z.cells = #[x, y]) (h1 : x.oneCell' = true) (h2 : y.oneCell' = true) (b o n c : Nat) (hn : 0 < n)
 (hc : ∀ j, j < n * 2 → (w.cell? ⟨b, o + j, none⟩).isSome = true) (hf : ∀ j, j < n * 2 → w.frozen? ⟨b, o + j, none⟩ = false) :
 ∃ vs, (Builtin.clear_ #[t] ty #[.slice (some ⟨b, o, none⟩) n c]).run Tryz.prog w = .ok (.tuple #[]) (w.setCells b o vs) := by
 obtain ⟨vs, hvs⟩ : ∃ vs, (Builtin.zeroCells z.cells n).toList = vs := ⟨_, rfl⟩
 have hlen : vs.length = n * 2 := by rw [← hvs, hz]; simp [Builtin.zeroCells]
 have hone : ∀ v ∈ vs, v.oneCell' = true := by
  intro v hv'
  rw [← hvs, hz] at hv'
  simp [Builtin.zeroCells] at hv'
  obtain ⟨i, hi, rfl⟩ := hv'
  rcases Nat.mod_two_eq_zero_or_one i with h | h <;> simp [h, h1, h2]
 have hst := run_storeCells_cells (P := Tryz.prog) b o vs 0 w (by rw [hlen]; simpa using hc) (by rw [hlen]; simpa using hf) hone
 simp only [Nat.add_zero] at hst
 refine ⟨vs, ?_⟩
 obtain ⟨m, rfl⟩ : ∃ m, n = m + 1 := ⟨n - 1, by omega⟩
 simp [Builtin.clear_, run_underlying ht, hv, hvs, hst]
theorem zero_mass (w : World) : (zeroValue 39).run Tryz.prog w = .ok (.agg #[.string ⟨#[]⟩, .string ⟨#[]⟩]) w := by kernel_rfl
def ixM (p : ByteArray × ByteArray → Bool) (l : List (ByteArray × ByteArray)) : Int := if l.any p = true then (l.findIdx p : Nat) else -1
theorem s_IndexFuncM (w : World) (v : Value) (l : List (ByteArray × ByteArray)) (F : Nat) (p : ByteArray × ByteArray → Bool) (hv : MRow w v l) (hen : ∀ args w, (callFunc F args).run Tryz.prog w = .ok (.enter F args) w)
 (hF : ∀ W (x : ByteArray × ByteArray), Calls Tryz.prog F #[.agg #[.string x.1, .string x.2]] W fun e w' => e = .returned (.bool (p x)) ∧ Below W.heap.size W w') :
 Calls Tryz.prog 86 #[v, .func (.func F) #[] #[]] w fun e w' => e = .returned (.int .i64 (ixM p l)) ∧ Below w.heap.size w w' := by
 obtain ⟨a, c, rfl, q1, q2, q3⟩ := hv.ex
 obtain ⟨n, hn⟩ : ∃ n, l.length = n := ⟨_, rfl⟩
 rw [hn] at q1 ⊢
 have HN := hid hn; have Q3 := hid q3; have HF := hid hF
 clear hv q3 hn hF
 go_enter Tryz.func86, Tryz.ntmps86
 go_wp2_with fail
 go_loopw [8] (fun ii wr => ∃ i : Nat, ii = .int .i64 i ∧ i ≤ n ∧ Hid (∀ j x, j < i → l[j]? = some x → p x = false) ∧ Hid (Below w.heap.size w wr)) (fun ii wr => n - (intOf ii).toNat)
 case atStart => exact ⟨0, rfl, Nat.zero_le _, fun j x hj => absurd hj (by omega), Below.refl _ _⟩
 case round =>
  obtain ⟨i, rfl, hi, hI, hB⟩ := hrel
  by_cases hlt : i < n
  ·obtain ⟨x, hx⟩ : ∃ x, l[i]? = some x := ⟨_, List.getElem?_eq_getElem (by rw [HN.out]; exact hlt)⟩
   obtain ⟨g, o, rfl, hg, m1, m2⟩ := Q3.out i x hx
   rw [Nat.mul_comm 2] at m1 m2
   have r1 := (hB.out.cell (p := ⟨g, o + i * 2, none⟩) hg).trans m1
   have r2 := (hB.out.cell (p := ⟨g, o + i * 2 + 1, none⟩) hg).trans m2
   have HX := hid hx
   have b1 : (0 : Int) ≤ (i : Int) := by omega
   have b2 : (i : Int) < (n : Int) := by omega
   have wi : IntKind.i64.wrap ((i : Int) + 1) = ((i + 1 : Nat) : Int) := by rw [IntWalk.i64_in _ ⟨by omega, by omega⟩]; omega
   obtain ⟨z, hz⟩ : ∃ z, p x = z := ⟨_, rfl⟩
   have C := fun W => hid (hz ▸ HF.out W x)
   have HZ := hid hz
   clear hx hz m1 m2 hg
   go_wp2_with fail
   refine (C _).out.mono ?_; rintro e w1 ⟨rfl, hb1⟩
   have y1 := hid (bnext hB.out hb1)
   clear hb1
   cases z
   ·go_wp2_with fail
    go_roundw
    case rel => exact ⟨i + 1, by go_num, by omega, fun j y hj hy => by
     rcases Nat.lt_or_ge j i with h | h
     ·exact hI.out j y h hy
     ·obtain rfl : j = i := by omega
      rw [HX.out] at hy; cases hy; exact HZ.out, y1⟩
    case measure => simp [intOf] <;> omega
   ·have hA : l.any p = true := List.any_eq_true.2 ⟨x, List.mem_of_getElem? HX.out, HZ.out⟩
    have hfi : l.findIdx p = i := by
     have hil : i < l.length := by rw [HN.out]; exact hlt
     rw [List.findIdx_eq hil]
     refine ⟨?_, fun j hj => ?_⟩
     ·have := HX.out; rw [List.getElem?_eq_getElem hil] at this; rw [Option.some.inj this]; exact HZ.out
     ·exact hI.out j _ hj (List.getElem?_eq_getElem (Nat.lt_trans hj hil))
    have HE := hid (show ixM p l = (i : Int) from by rw [ixM, if_pos hA, hfi])
    clear hA hfi
    go_wp2_with fail
    go_ret
    exact ⟨by rw [HE.out]; rfl, y1.out⟩
  ·obtain rfl : i = n := by omega
   have hA : ¬ l.any p = true := fun h => by
    obtain ⟨x, hx, hp⟩ := List.any_eq_true.1 h
    obtain ⟨j, hj⟩ := List.getElem?_of_mem hx
    have := hI.out j x (by rw [← HN.out]; exact (List.getElem?_eq_some_iff.1 hj).1) hj
    rw [this] at hp; cases hp
   have HE := hid (show ixM p l = -1 from by rw [ixM, if_neg hA])
   have q0 : decide ((i : Int) < (i : Int)) = false := by simp
   clear hA hlt
   go_wp2_with fail
   go_ret
   exact ⟨by rw [HE.out]; rfl, hB.out⟩
structure DelI (del : ByteArray × ByteArray → Bool) (L D : List (ByteArray × ByteArray)) (i j : Nat) : Prop where
 len : D.length = L.length
 lt : i < j
 le : j ≤ L.length
 front : D.take i = (L.take j).filter fun x => !del x
 back : D.drop j = L.drop j
theorem DelI.start {del : ByteArray × ByteArray → Bool} {L : List (ByteArray × ByteArray)} (h : L.any del = true) : DelI del L L (L.findIdx del) (L.findIdx del + 1) := by
 have hk : L.findIdx del < L.length := List.findIdx_lt_length.2 (List.any_eq_true.1 h)
 have hd : del L[L.findIdx del] = true := List.findIdx_getElem
 refine ⟨rfl, Nat.lt_succ_self _, hk, ?_, rfl⟩
 rw [List.take_add_one, List.getElem?_eq_getElem hk, List.filter_append]
 have e1 : List.filter (fun x => !del x) (some L[L.findIdx del]).toList = [] := by simp [hd]
 rw [e1, List.append_nil]
 symm
 rw [List.filter_eq_self]
 intro x hx
 obtain ⟨j, hj, rfl⟩ := List.getElem_of_mem hx
 rw [List.length_take] at hj
 rw [List.getElem_take]
 have := List.not_of_lt_findIdx (p := del) (xs := L) (i := j) (by omega)
 simpa using this
theorem DelI.at_ {del : ByteArray × ByteArray → Bool} {L D : List (ByteArray × ByteArray)} {i j : Nat} (h : DelI del L D i j) {x : ByteArray × ByteArray} (hx : L[j]? = some x) : D[j]? = some x := by
 have := congrArg (fun l => l[0]?) h.back
 simp only [List.getElem?_drop, Nat.add_zero] at this
 rw [this, hx]
theorem DelI.keep {del : ByteArray × ByteArray → Bool} {L D : List (ByteArray × ByteArray)} {i j : Nat} (h : DelI del L D i j) {x : ByteArray × ByteArray} (hx : L[j]? = some x) (hd : del x = false) : DelI del L (D.set i x) (i + 1) (j + 1) := by
 have hj := (List.getElem?_eq_some_iff.1 hx).1
 have hlt := h.lt
 refine ⟨by rw [List.length_set]; exact h.len, by omega, hj, ?_, ?_⟩
 ·have e1 : L.take (j + 1) = L.take j ++ [x] := by rw [List.take_add_one, hx]; rfl
  have e2 : (D.set i x).take (i + 1) = D.take i ++ [x] := by
   rw [List.take_add_one, List.getElem?_set_self (by rw [h.len]; omega), List.take_set, List.set_eq_of_length_le (by rw [List.length_take]; omega)]; rfl
  rw [e1, e2, List.filter_append, ← h.front]
  simp [hd]
 ·rw [List.drop_set_of_lt (by omega), ← List.drop_drop, h.back, List.drop_drop]
theorem DelI.skip {del : ByteArray × ByteArray → Bool} {L D : List (ByteArray × ByteArray)} {i j : Nat} (h : DelI del L D i j) {x : ByteArray × ByteArray} (hx : L[j]? = some x) (hd : del x = true) : DelI del L D i (j + 1) := by
 have hj := (List.getElem?_eq_some_iff.1 hx).1
 have hlt := h.lt
 refine ⟨h.len, by omega, hj, ?_, ?_⟩
 ·rw [List.take_add_one, hx, List.filter_append, ← h.front]
  simp [hd]
 ·rw [← List.drop_drop, h.back, List.drop_drop]
theorem massC_set {D : List (ByteArray × ByteArray)} {i : Nat} (x : ByteArray × ByteArray) (hi : i < D.length) : ((massC D).set (i * 2) (.string x.1)).set (i * 2 + 1) (.string x.2) = massC (D.set i x) := by
 apply List.ext_getElem?
 intro k
 rw [massC_at, List.getElem?_set, List.getElem?_set]
 simp only [List.length_set, massC_length]
 by_cases h1 : i * 2 + 1 = k
 ·subst h1
  rw [if_pos rfl, if_pos (by omega), show (i * 2 + 1) / 2 = i by omega, List.getElem?_set_self hi, Option.map_some, if_neg (by omega)]
 ·rw [if_neg h1]
  by_cases h2 : i * 2 = k
  ·subst h2
   rw [if_pos rfl, if_pos (by omega), show i * 2 / 2 = i by omega, List.getElem?_set_self hi, Option.map_some, if_pos (by omega)]
  ·rw [if_neg h2, massC_at, List.getElem?_set_ne (by omega)]
theorem massC_take (D : List (ByteArray × ByteArray)) (i : Nat) : (massC D).take (i * 2) = massC (D.take i) := by
 apply List.ext_getElem?
 intro k
 rw [massC_at]
 by_cases h : k < i * 2
 ·rw [List.getElem?_take_of_lt h, massC_at, List.getElem?_take_of_lt (by omega)]
 ·rw [List.getElem?_take_eq_none (by omega), List.getElem?_take_eq_none (by omega)]; rfl
theorem s_DelM (w : World) (F : Nat) (del : ByteArray × ByteArray → Bool) (g cap base n : Nat) (L : List (ByteArray × ByteArray)) (hO : w.ownsRow base 39 2 (.slice (some ⟨g, 0, none⟩) n cap) n (massC L)) (hl : L.length = n) (hn : n ≤ 100000) (hb : base ≤ w.heap.size)
 (hen : ∀ args w, (callFunc F args).run Tryz.prog w = .ok (.enter F args) w)
 (hF : ∀ W (x : ByteArray × ByteArray), Calls Tryz.prog F #[.agg #[.string x.1, .string x.2]] W fun e w' => e = .returned (.bool (del x)) ∧ Below W.heap.size W w') :
 Calls Tryz.prog 35 #[.slice (some ⟨g, 0, none⟩) n cap, .func (.func F) #[] #[]] w fun e w' => (∃ m, m = (L.filter fun x => !del x).length ∧ e = .returned (.slice (some ⟨g, 0, none⟩) m cap) ∧ w'.ownsRow base 39 2 (.slice (some ⟨g, 0, none⟩) m cap) m (massC (L.filter fun x => !del x))) ∧ Below base w w' := by
 have PI := hid (s_IndexFuncM w _ L F del (MRow.of_owns hO) hen hF)
 have HO := hid hO
 obtain ⟨o1, o2, o3, o4, o5, o6⟩ := own_slotK hO
 have HF := hid hF; have HL := hid hl; have HB := hid hb; have HG := hid o1
 by_cases hany : L.any del = true
 ·have st := hid (DelI.start hany)
  have ei : ixM del L = (L.findIdx del : Nat) := by rw [ixM, if_pos hany]
  rw [ei] at PI
  obtain ⟨k, hk⟩ : ∃ k, L.findIdx del = k := ⟨_, rfl⟩
  rw [hk] at PI st
  have hkn : k < n := by have := st.out.le; omega
  have q0 : ((k : Int) == -1) = false := by rw [beq_eq_false_iff_ne]; omega
  have wk : IntKind.i64.wrap ((k : Int) + 1) = ((k + 1 : Nat) : Int) := by rw [IntWalk.i64_in _ ⟨by omega, by omega⟩]; omega
  clear hO hF hl hb hany ei hk o1 o2 o3 o4
  go_enter Tryz.func35, Tryz.ntmps35
  go_wp2_with fail
  refine PI.out.mono ?_; rintro e w1 ⟨rfl, hb1⟩
  have y1 := hid (hb1.mono HB.out)
  have O1 := hid (owns_call HO.out hb1)
  clear hb1
  go_wp2_with fail
  go_loopw [5, 6, 7] (fun s5 s6 s7 wr => ∃ (i j : Nat) (D : List (ByteArray × ByteArray)), s5 = .int .i64 (i : Nat) ∧ s6 = .int .i64 (j : Nat) ∧ j ≤ n ∧ i < j ∧ Hid (DelI del L D i j) ∧ Hid (wr.ownsRow base 39 2 (.slice (some ⟨g, 0, none⟩) n cap) n (massC D)) ∧ Hid (Below base w wr)) (fun s5 s6 s7 wr => n - (intOf s6).toNat)
  case atStart => exact ⟨k, k + 1, L, rfl, by go_num, by omega, by omega, st, O1, y1⟩
  case round =>
   obtain ⟨i, j, D, rfl, rfl, hj, hij, hI, hO, hBl⟩ := hrel
   obtain ⟨o1, o2, o3, o4, -, -⟩ := own_slotK hO.out
   have hDl := hI.out.len
   by_cases hlt : j < n
   ·obtain ⟨x, hx⟩ : ∃ x, L[j]? = some x := ⟨_, List.getElem?_eq_getElem (by rw [HL.out]; exact hlt)⟩
    obtain ⟨m1, m2⟩ := massC_get (hI.out.at_ hx)
    obtain ⟨y, hy⟩ : ∃ y, D[i]? = some y := ⟨_, List.getElem?_eq_getElem (by rw [hDl, HL.out]; omega)⟩
    obtain ⟨m3, m4⟩ := massC_get hy
    have r1 := o4 _ _ m1
    have r2 := o4 _ _ m2
    have r3 := o4 _ _ m3
    have r4 := o4 _ _ m4
    rw [Nat.mul_comm 2] at r1 r2 r3 r4
    have f1 := o3 (i * 2)
    have f2 := o3 (i * 2 + 1)
    have b1 : (0 : Int) ≤ (j : Int) := by omega
    have b2 : (j : Int) < (n : Int) := by omega
    have b3 : (0 : Int) ≤ (i : Int) := by omega
    have b4 : (i : Int) < (n : Int) := by omega
    have wj : IntKind.i64.wrap ((j : Int) + 1) = ((j + 1 : Nat) : Int) := by rw [IntWalk.i64_in _ ⟨by omega, by omega⟩]; omega
    have wi : IntKind.i64.wrap ((i : Int) + 1) = ((i + 1 : Nat) : Int) := by rw [IntWalk.i64_in _ ⟨by omega, by omega⟩]; omega
    obtain ⟨z, hz⟩ : ∃ z, del x = z := ⟨_, rfl⟩
    have C := fun W => hid (hz ▸ HF.out W x)
    have HX := hid hx; have HZ := hid hz
    have hset := hid (massC_set (D := D) (i := i) x (by rw [hDl, HL.out]; omega))
    have X1 := hid (Blk.new wr #[.string x.1, .string x.2] 39)
    have A1 := hid ((Below.refl wr.heap.size wr).alloc (Nat.le_refl _) (.cells #[.string x.1, .string x.2] 39))
    have O2 := hid (owns_call hO.out A1.out)
    have GL : Hid (g < wr.heap.size) := o2
    clear hx hz m1 m2 m3 m4 o4 hy
    obtain ⟨xk, xv⟩ := x
    dsimp only at *
    go_wp2_with fail
    refine (C _).out.mono ?_; rintro e w2 ⟨rfl, hb2⟩
    have hb2' := bnext A1.out hb2
    have X2 := hid (X1.out.call hb2)
    have O3 := hid (owns_call O2.out hb2)
    have B2 := hid (hBl.out.trans (hb2'.mono (by omega)))
    have z0 := X2.out.cell 0
    have z1 := X2.out.cell 1
    simp at z0 z1
    have r3 := (hb2'.cell (p := ⟨g, i * 2, none⟩) GL.out).trans r3
    have r4 := (hb2'.cell (p := ⟨g, i * 2 + 1, none⟩) GL.out).trans r4
    obtain ⟨-, -, g3, -, -, -⟩ := own_slotK O3.out
    have f1 := g3 (i * 2)
    have f2 := g3 (i * 2 + 1)
    clear hb2 hb2' r1 r2
    cases z
    ·go_wp2_with fail
     go_roundw
     case rel =>
      refine ⟨i + 1, j + 1, D.set i (xk, xv), by go_num, by go_num, by omega, by omega, hid (hI.out.keep HX.out HZ.out), ?_, hid ((B2.out.setCell o1 _).setCell o1 _)⟩
      have h5 := own_setK (own_setK O3.out (i * 2) (.string xk)) (i * 2 + 1) (.string xv)
      rw [hset.out] at h5
      exact h5
     case measure => simp [intOf] <;> omega
    ·clear f1 f2 r3 r4
     go_wp2_with fail
     go_roundw
     case rel => exact ⟨i, j + 1, D, rfl, by go_num, by omega, by omega, hid (hI.out.skip HX.out HZ.out), O3, B2⟩
     case measure => simp [intOf] <;> omega
   ·obtain rfl : j = n := by omega
    have q1 : decide ((j : Int) < (j : Int)) = false := by simp
    have b1 : (0 : Int) ≤ (i : Int) := by omega
    have b2 : (i : Int) ≤ (j : Int) := by omega
    have b3 : (j : Int) ≤ (cap : Int) := by omega
    have b4 : (i : Int) ≤ (cap : Int) := by omega
    obtain ⟨vs, hcl⟩ := run_clear2 wr 26 39 0 (.agg #[.string ⟨#[]⟩, .string ⟨#[]⟩]) (.string ⟨#[]⟩) (.string ⟨#[]⟩) Tryz.underlying26 zero_mass rfl rfl rfl g (i * 2) (j - i) (cap - i) (by omega)
     (fun k hk => by
      obtain ⟨v, hv⟩ : ∃ v, (massC D)[i * 2 + k]? = some v := ⟨_, List.getElem?_eq_getElem (by rw [massC_length, hDl, HL.out]; omega)⟩
      rw [o4 _ _ hv]; rfl)
     (fun k hk => o3 _)
    obtain ⟨ys, w3, w4⟩ := own_setCells vs (i * 2) hO.out
    have hfr := hI.out.front
    have hT : L.take j = L := List.take_of_length_le (by rw [HL.out]; exact Nat.le_refl _)
    rw [hT] at hfr
    have hcut := own_cutK w3 (m := i) (by omega)
    rw [w4, massC_take, hfr] at hcut
    have hcb := hid (below_setCells o1 vs (i * 2) hBl.out)
    have hlen : i = (L.filter fun x => !del x).length := by rw [← hfr, List.length_take, hDl, HL.out]; omega
    have HC := hid hcut; have HLN := hid hlen
    clear hlt o4 w3 w4 hfr hcut hlen hT
    go_wp2_with fail
    go_ret
    refine ⟨⟨i, HLN.out, rfl, HC.out⟩, hcb.out⟩
 ·have hk : (L.filter fun x => !del x) = L := List.filter_eq_self.2 fun x hx => by
   cases hd : del x
   ·rfl
   ·exact absurd (List.any_eq_true.2 ⟨x, hx, hd⟩) hany
  have ei : ixM del L = -1 := by rw [ixM, if_neg hany]
  rw [ei] at PI
  rw [hk]
  have q0 : ((-1 : Int) == -1) = true := rfl
  clear hO hF hb hany ei hk o1 o2 o3 o4
  go_enter Tryz.func35, Tryz.ntmps35
  go_wp2_with fail
  refine PI.out.mono ?_; rintro e w1 ⟨rfl, hb1⟩
  go_wp2_with fail
  go_ret
  exact ⟨⟨n, HL.out.symm, rfl, owns_call HO.out hb1⟩, hb1.mono HB.out⟩
open Go.Lib (decDigits nDigits)
def flE (c : List Int) (a : ByteArray) (n : Int) : Int := if qnE c a ≠ 0 then qnE c a else if n < 0 ∨ 32 < n then 2 else if 256 < n * (c.length : Nat) then 5 else 0
def flR (c : List Int) (a : ByteArray) (n : Int) : List (ByteArray × ByteArray) := if flE c a n = 0 then sortM (fkP (gV (bN (cW a)) (bN (qD a)) false n.toNat) n.toNat c) else []
theorem fd_isZ (w : World) (x : ByteArray × ByteArray) : Calls Tryz.prog 36 #[.agg #[.string x.1, .string x.2]] w fun e w' => e = .returned (.bool (!notZ x)) ∧ Below w.heap.size w w' := by
 obtain ⟨k, v⟩ := x
 have X1 := hid (Blk.new w #[.string k, .string v] 39)
 have z1 := X1.out.cell 1
 simp at z1
 dsimp only
 by_cases h : v = ⟨#[48]⟩
 ·subst h
  have e1 : (!notZ (k, (⟨#[48]⟩ : ByteArray))) = true := by simp [notZ]
  rw [e1]
  go_enter Tryz.func36, Tryz.ntmps36
  go_wp2_with fail
  go_ret
  exact ⟨rfl, (Below.refl _ _).alloc (Nat.le_refl _) _⟩
 ·have e1 : (!notZ (k, v)) = false := by simp [notZ, h]
  rw [e1]
  have t1 : (v.toList == [48]) = false := ne_lit h
  clear h e1
  go_enter Tryz.func36, Tryz.ntmps36
  go_wp2_with fail
  go_ret
  exact ⟨rfl, (Below.refl _ _).alloc (Nat.le_refl _) _⟩
theorem own_block {W : World} {base : Nat} {e : TypeId} {k : Nat} {v : Value} {n : Nat} {xs : List Value} (h : W.ownsRow base e k v n xs) : ∀ r, v.ownBlock = some r → ∃ cur, W.heap[r]? = some (.cells cur e (0, 0)) := by
 intro r hr
 rcases h.2 with ⟨rfl, _⟩ | ⟨g, cap, cur, rfl, _, hg, _⟩
 ·simp [Value.ownBlock] at hr
 ·simp only [Value.ownBlock, Option.some.injEq] at hr
  subst hr
  exact ⟨_, hg⟩
structure LwI (w W1 wr : World) (bx bm bp : Nat) (g : Int → Nat) (n : Nat) (d : Value) (i : Nat) (L : List (ByteArray × ByteArray)) : Prop where
 noi : NoiS Unit wr bx bm bp g n
 own : wr.ownsRow W1.heap.size 39 2 d i (massC L)
 bel : Below w.heap.size w wr
 siz : W1.heap.size ≤ wr.heap.size
theorem LwI.call {w W1 wr wr' : World} {bx bm bp : Nat} {g : Int → Nat} {n : Nat} {d : Value} {i : Nat} {L : List (ByteArray × ByteArray)} (h : LwI w W1 wr bx bm bp g n d i L) (hb : Below wr.heap.size wr wr') : LwI w W1 wr' bx bm bp g n d i L :=
 ⟨h.noi.call hb, owns_call h.own hb, bnext h.bel hb, Nat.le_trans h.siz hb.size⟩
theorem LwI.grow {w W1 wr wr' : World} {bx bm bp : Nat} {g : Int → Nat} {n : Nat} {d : Value} {i : Nat} {L : List (ByteArray × ByteArray)} (h : LwI w W1 wr bx bm bp g n d i L) (hn : NoiS Unit wr' bx bm bp g n) (hg : wr.grownBy wr' (some bm)) (h1 : w.heap.size ≤ bm) (h2 : bm < W1.heap.size) : LwI w W1 wr' bx bm bp g n d i L := by
 refine ⟨hn, h.own.kept hg ?_, ⟨hg.os.trans h.bel.os, hg.tape.trans h.bel.tape, hg.output.trans h.bel.output, Nat.le_trans h.bel.size hg.size, fun k hk => ?_⟩, Nat.le_trans h.siz hg.size⟩
 ·refine .inr fun e => ?_
  have := (h.own.lt bm e).1
  omega
 ·exact (hg.block k (Nat.lt_of_lt_of_le hk h.bel.size) (fun e => by injection e with e; omega)).trans (h.bel.block k hk)
structure LwT (g : Int → Nat) (n : Nat) (c : List Int) (PF : Nat → Nat → Nat → ByteArray) (CT : Int → ByteArray) (TF : Nat → Nat → ByteArray) (FT RF : Nat → ByteArray) : Prop where
 start : ∀ i v, v ≤ n → (prT g n)[v]? = some (PF i v 0)
 same : ∀ i v, PF i v (i + 1) = PF i v i
 times : ∀ (V : World) i v k, i < c.length → v ≤ n → k < c.length → k ≠ i → Lay V → Calls Tryz.prog 30 #[.string (PF i v k), .string (CT (if k < i then c.getD i 0 + v - c.getD k 0 else c.getD i 0 + v - c.getD k 0 + 1))] V fun e w' => e = .returned (.string (PF i v (k + 1))) ∧ Below V.heap.size V w'
 below : ∀ (V : World) bx bm bp (most : Int), NoiS Unit V bx bm bp g n → Lay V → Calls Tryz.prog 31 #[.pointer (some ⟨bx, 0, none⟩), .int .i64 most] V fun e w' => e = .returned (.string (CT most)) ∧ NoiS Unit w' bx bm bp g n ∧ V.grownBy w' (some bm)
 plus : ∀ (V : World) i v, i < c.length → v ≤ n → Lay V → Calls Tryz.prog 32 #[.string (TF i v), .string (PF i v c.length)] V fun e w' => e = .returned (.string (TF i (v + 1))) ∧ Below V.heap.size V w'
 zero : ∀ i, TF i 0 = ⟨#[48]⟩
 tend : ∀ i, TF i (n + 1) = FT i
 less : ∀ (V : World) i, i < c.length → Lay V → Calls Tryz.prog 34 #[.string (RF i), .string (FT i)] V fun e w' => e = .returned (.string (RF (i + 1))) ∧ Below V.heap.size V w'
 one : RF 0 = ⟨#[49]⟩
 next : ∀ i, fkAll g n c (i + 1) = fkAll g n c i ++ [(numB i, FT i)]
 all : fkW g n c = fkAll g n c c.length ++ [(lateB, RF c.length)]
theorem dy_sz (x m : Nat) : (dyB x m).size ≤ 1000000 := by
 have := outB_size (qmk false x (2 ^ m))
 show (outB _).size ≤ _
 omega
theorem lw_texts {g : Int → Nat} {n : Nat} {c : List Int} (hn : n ≤ 32) (hg : ∀ v : Int, v < 0 → g v = 0) (hz : zS n g ≤ 2 ^ n) (hm : n * c.length ≤ 1000) :
 LwT g n c (fun i v k => dyB (fkN g n (c.getD i 0) v i c k) (n * bI i k)) (fun m => dyB (cmC g n m) n) (fun i v => dyB (fkS g n c i v) (n * c.length)) (fun i => dyB (fkT g n c i) (n * c.length)) (fun i => dyB (fkR g n c i) (n * c.length)) where
 start i v hv := by
  rw [prT_get hv]
  show some (dyB (g v) n) = some (dyB (g v) (n * bI i 0))
  rw [show bI i 0 = 1 from by unfold bI; rw [if_pos (Nat.zero_le _)], Nat.mul_one]
 same i v := by
  show dyB (fkN _ _ _ _ _ _ (i + 1)) _ = dyB (fkN _ _ _ _ _ _ i) _
  rw [fkN, if_pos rfl, bI_same]
 times V i v k hi hv hk hne hL := by
  have h := fd_times V (dyB (fkN g n (c.getD i 0) v i c k) (n * bI i k)) (dyB (cmC g n (if k < i then c.getD i 0 + v - c.getD k 0 else c.getD i 0 + v - c.getD k 0 + 1)) n) (dy_sz _ _) (dy_sz _ _) hL
  rw [fk_times hg hz (by omega) hi hk hne hm] at h
  exact h
 below V bx bm bp most hN hL := fd_below V bx bm bp n g most hn hg hz hN hL
 plus V i v hi hv hL := by
  have h := fd_plus V (dyB (fkS g n c i v) (n * c.length)) (dyB (fkN g n (c.getD i 0) v i c c.length) (n * bI i c.length)) (dy_sz _ _) (dy_sz _ _) hL
  rw [fk_plus hg hz hi hv hm] at h
  exact h
 zero i := dy_zero _
 tend i := by show dyB (fkS g n c i (n + 1)) _ = _; rw [fkS_end]
 less V i hi hL := by
  have h := fd_less V (dyB (fkR g n c i) (n * c.length)) (dyB (fkT g n c i) (n * c.length)) (dy_sz _ _) (dy_sz _ _) hL
  rw [fk_less hg hz hi hm] at h
  exact h
 one := by
  show dyB (2 ^ (n * c.length) - 0) _ = _
  rw [Nat.sub_zero, dy_full]
 next i := fkAll_succ g n c i
 all := rfl
end Go.Proofs.YtckihjfkafdncaaGreatDoor
namespace Go.Proofs.YtckihjfkafdncaaGreatDoor
open Go.RowKit
theorem owned_below {w W w3 : World} {t : TypeId} {z : Nat} {v : Value} {m : Nat} {vs : List Value} (h : W.ownsRow w.heap.size t z v m vs) (h0 : Below w.heap.size w W) (hg : W.grownBy w3 v.ownBlock) : Below w.heap.size w w3 := by
 refine h0.trans ⟨hg.os, hg.tape, hg.output, hg.size, fun j hj => hg.block j (Nat.lt_of_lt_of_le hj h0.size) fun e => ?_⟩
 have := (h.lt j e.symm).1
 omega
open Go.Shelf
theorem news_blk {W : World} {g : Nat} {x : Value} {t : TypeId} (h : Blk W g #[x] t) : ∀ j u, [x][j]? = some u → W.cell? ((⟨g, 0, none⟩ : Addr).add j) = some u := fun j u hj => by
 match j, hj with
 | 0, hj =>
  simp at hj
  subst hj
  rw [Addr.add_lit]
  exact h.cell 0
end Go.Proofs.YtckihjfkafdncaaGreatDoor
namespace Go.Proofs.YtckihjfkafdncaaGreatDoor
open Go.RowKit
open Go.Lib (decDigits nDigits)
theorem flE_ok {c : List Int} {a : ByteArray} {n : Int} (h : flE c a n = 0) : 1 ≤ c.length ∧ gPE a = 0 ∧ 0 ≤ n := by
 unfold flE at h
 split at h
 ·rename_i h1; exact absurd h h1
 ·rename_i h1
  obtain ⟨q1, q2, q3, q4⟩ := qnE_ok (Classical.byContradiction h1)
  split at h
  ·cases h
  ·exact ⟨q1, q4, by omega⟩
def slW (c : List Int) (a : ByteArray) (n : Nat) (l : List UInt8) : Nat := if (wdA c a n l).2 = true then (wdA c a n l).1.toNat else 3
def qC (f : List UInt8 → Nat) (W : List (List UInt8)) : List Nat := (List.range 4).map fun k => W.countP fun x => decide (f x = k)
theorem qC_nil (f : List UInt8 → Nat) : qC f [] = List.replicate 4 0 := rfl
theorem qC_length (f : List UInt8 → Nat) (W : List (List UInt8)) : (qC f W).length = 4 := by simp [qC]
theorem qC_get (f : List UInt8 → Nat) (W : List (List UInt8)) {k : Nat} (hk : k < 4) : (qC f W)[k]? = some (W.countP fun x => decide (f x = k)) := by
 unfold qC
 rw [List.getElem?_map, List.getElem?_range hk]; rfl
theorem qC_snoc (f : List UInt8 → Nat) (W : List (List UInt8)) (x : List UInt8) : qC f (W ++ [x]) = (qC f W).set (f x) ((W.countP fun y => decide (f y = f x)) + 1) := by
 apply List.ext_getElem?
 intro k
 rw [List.getElem?_set]
 by_cases hk : k < 4
 ·rw [qC_get f _ hk, qC_get f _ hk, List.countP_append, qC_length]
  by_cases h : f x = k
  ·subst h
   rw [if_pos rfl, if_pos hk]
   simp
  ·rw [if_neg h]
   simp [h]
 ·have h1 : (qC f (W ++ [x]))[k]? = none := List.getElem?_eq_none (by rw [qC_length]; omega)
  have h2 : (qC f W)[k]? = none := List.getElem?_eq_none (by rw [qC_length]; omega)
  rw [h1, h2, qC_length]
  split
  ·rw [if_neg (by omega)]
  ·rfl
theorem wdA_cases {c : List Int} (hc : c ≠ []) (a : ByteArray) (n : Nat) (l : List UInt8) : wdA c a n l = (0, false) ∨ ∃ m : Nat, m < c.length ∧ wdA c a n l = ((m : Int), true) := by
 unfold wdA
 cases h : nzO false a c ((chk n c.length l).map tb) with
 | none => exact .inl rfl
 | some z =>
  have hl := nzO_length (by rw [List.length_map, chk_length]) h
  have hz : z ≠ [] := fun e => hc (List.length_eq_zero_iff.1 (by rw [← hl, e]; rfl))
  exact .inr ⟨amx z, by rw [← hl]; exact amx_lt hz, rfl⟩
theorem wdA_pk {c : List Int} {a : ByteArray} {n : Nat} {l : List UInt8} (hq : qnE c a = 0) (hn : n ≤ 256) (hl : l.length = n * c.length) (hb : ∀ b ∈ l, b = 48 ∨ b = 49) :
 pkE c a ((chk n c.length l).map tb) = 0 ∧ pkA c a ((chk n c.length l).map tb) = wdA c a n l := by
 have e : pkE c a ((chk n c.length l).map tb) = 0 := by
  unfold pkE wdE
  rw [if_neg (by simpa using hq), if_pos (by rw [List.length_map, chk_length]), bsE_zero]
  intro b hb'
  obtain ⟨x, hx, rfl⟩ := List.mem_map.1 hb'
  obtain ⟨h1, h2⟩ := chk_bits hl hb x hx
  exact chkE_tb h2 (by omega)
 exact ⟨e, if_pos e⟩
theorem qC_count {c : List Int} {a : ByteArray} (he : gPE a = 0) {n : Nat} (hn : n ≤ 256) {k : Nat} (hk : k < c.length) (h3 : c.length ≤ 3) : (allW (n * c.length)).countP (fun x => decide (slW c a n x = k)) = fkT (gV (bN (cW a)) (bN (qD a)) false n) n c k := by
 rw [← fd_count he hn hk]
 refine List.countP_congr fun l hl => ?_
 have hc : c ≠ [] := fun e => by rw [e] at hk; simp at hk
 unfold slW
 rcases wdA_cases hc a n l with h | ⟨m, hm, h⟩
 ·rw [h]; simp; omega
 ·rw [h]; simp; omega
theorem qC_late {c : List Int} {a : ByteArray} (he : gPE a = 0) {n : Nat} (hn : n ≤ 256) (hc : c ≠ []) (h3 : c.length ≤ 3) : (allW (n * c.length)).countP (fun x => decide (slW c a n x = 3)) = fkR (gV (bN (cW a)) (bN (qD a)) false n) n c c.length := by
 rw [← fd_late he hn hc]
 refine List.countP_congr fun l hl => ?_
 unfold slW
 rcases wdA_cases hc a n l with h | ⟨m, hm, h⟩
 ·rw [h]; simp
 ·rw [h]; simp; omega
theorem qC_two {c : List Int} {a : ByteArray} {n : Nat} {k : Nat} (hc : c ≠ []) (h2 : c.length ≤ k) (hk : k < 3) (W : List (List UInt8)) : W.countP (fun x => decide (slW c a n x = k)) = 0 := by
 rw [List.countP_eq_zero]
 intro l _
 unfold slW
 rcases wdA_cases hc a n l with h | ⟨m, hm, h⟩
 ·rw [h]; simp; omega
 ·rw [h]; simp; omega
def kyB (k : Nat) : ByteArray := if k = 3 then lateB else numB k
def fnN (C : List Nat) (i : Nat) : Nat := (C.take i).countP fun x => decide (0 < x)
theorem fnN_step {C : List Nat} {i x : Nat} (h : C[i]? = some x) : fnN C (i + 1) = if 0 < x then fnN C i + 1 else fnN C i := by
 unfold fnN
 rw [List.take_add_one, h, List.countP_append]
 by_cases h0 : 0 < x
 ·simp [h0]
 ·simp [h0]
theorem fnN_le (C : List Nat) (i : Nat) (h : C.length = 4) : fnN C i ≤ 4 := by
 have := List.countP_le_length (p := fun x => decide (0 < x)) (l := C.take i)
 rw [List.length_take] at this
 unfold fnN
 omega
theorem pct_main {c : List Int} {a : ByteArray} {n : Nat} (h : flE c a (n : Nat) = 0) (hK : c.length = 2 ∨ c.length = 3) (hn : n ≤ 4) :
 qnE c a = 0 ∧ (∀ k x, (qC (slW c a n) (allW (n * c.length)))[k]? = some x → 0 < x → hasM (flR c a (n : Nat)) (kyB k, shB x (2 ^ (n * c.length))) = true) ∧
 fnN (qC (slW c a n) (allW (n * c.length))) 4 = (flR c a (n : Nat)).length := by
 obtain ⟨c1, hg, -⟩ := flE_ok h
 have hq : qnE c a = 0 := by
  unfold flE at h
  split at h
  ·rename_i h1; exact absurd h h1
  ·rename_i h1; exact Classical.byContradiction h1
 have hR : flR c a (n : Nat) = sortM (fkP (gV (bN (cW a)) (bN (qD a)) false n) n c) := if_pos h
 have hND := (gPE_ok hg).2
 have hc : c ≠ [] := fun e => by rw [e] at c1; simp at c1
 have hgn : ∀ v : Int, v < 0 → gV (bN (cW a)) (bN (qD a)) false n v = 0 := fun v hv => gV_one_neg n hv
 have hz : zS n (gV (bN (cW a)) (bN (qD a)) false n) ≤ 2 ^ n := by have := gV_all hND false n; omega
 have hm : n * c.length ≤ 1000 := Nat.le_trans (Nat.mul_le_mul hn (show c.length ≤ 3 by omega)) (by omega)
 have q3 := qC_late hg (n := n) (by omega) hc (by omega)
 have qk := fun k (hk : k < c.length) => qC_count hg (n := n) (by omega) hk (by omega)
 have q2 := fun k (hk : c.length ≤ k) (h3 : k < 3) => qC_two (a := a) (n := n) hc hk h3 (allW (n * c.length))
 have b1 := fun i (hi : i < c.length) => fkT_one hgn hz hi
 have bR : fkR (gV (bN (cW a)) (bN (qD a)) false n) n c c.length ≤ 2 ^ (n * c.length) := by unfold fkR; exact Nat.sub_le _ _
 rw [hR]
 obtain ⟨g, hgg⟩ : ∃ g, gV (bN (cW a)) (bN (qD a)) false n = g := ⟨_, rfl⟩
 rw [hgg] at q3 b1 bR ⊢
 simp only [hgg] at qk
 obtain ⟨M, hM⟩ : ∃ M, n * c.length = M := ⟨_, rfl⟩
 have hW : fkW g n c = fkAll g n c c.length ++ [(lateB, dyB (fkR g n c c.length) (n * c.length))] := rfl
 have nz : ∀ (key : ByteArray) x, x ≤ 2 ^ M → notZ (key, dyB x M) = decide (0 < x) := fun key x hx => by
  unfold notZ
  by_cases h0 : x = 0
  ·have e := (dy_eq_zero hx (by omega)).2 h0
   rw [decide_eq_false (fun h => h e), decide_eq_false (by omega)]
  ·have e : dyB x M ≠ ⟨#[48]⟩ := fun e => h0 ((dy_eq_zero hx (by omega)).1 e)
   rw [decide_eq_true e, decide_eq_true (by omega)]
 refine ⟨hq, fun k x hk hx => ?_, ?_⟩
 ·rw [hasM_iff, sortM_mem, fkP_mem]
  have hk4 : k < 4 := by have := (List.getElem?_eq_some_iff.1 hk).1; rwa [qC_length] at this
  rw [qC_get _ _ hk4] at hk
  injection hk with hk
  have h2 : x ≤ 2 ^ M ∧ (kyB k, dyB x (n * c.length)) ∈ fkW g n c := by
   rw [fkW_mem]
   by_cases e3 : k = 3
   ·subst e3
    rw [q3] at hk
    subst hk
    exact ⟨by rw [← hM]; exact bR, .inr rfl⟩
   ·by_cases hkc : k < c.length
    ·rw [qk k hkc] at hk
     subst hk
     have := b1 k hkc
     exact ⟨by rw [← hM]; omega, .inl ⟨k, hkc, by unfold kyB; rw [if_neg e3]⟩⟩
    ·rw [q2 k (by omega) (by omega)] at hk
     omega
  refine ⟨h2.2, fun e => ?_⟩
  have e' : dyB x M = ⟨#[48]⟩ := by rw [← hM]; exact e
  have := (dy_eq_zero h2.1 (by omega)).1 e'
  omega
 ·have e1 : (sortM (fkP g n c)).length = (fkP g n c).length := (List.mergeSort_perm _ _).length_eq
  rw [e1]
  have e2 : (fkP g n c).length = (fkW g n c).countP notZ := by unfold fkP; rw [List.countP_eq_length_filter]
  rw [e2, hW, List.countP_append, hM] 
  have e3 : (fkAll g n c c.length).countP notZ = (List.range c.length).countP fun k => decide (0 < fkT g n c k) := by
   unfold fkAll
   rw [List.countP_map]
   refine List.countP_congr fun k hk => ?_
   rw [List.mem_range] at hk
   have := b1 k hk
   show notZ _ = true ↔ _
   rw [hM, nz _ _ (by rw [← hM]; omega)]
  rw [e3, List.countP_singleton, nz _ _ (by rw [← hM]; exact bR)]
  unfold fnN
  rw [List.take_of_length_le (by rw [qC_length]; exact Nat.le_refl _)]
  rw [hM] at qk q2 q3
  unfold qC
  rw [List.countP_map]
  rcases hK with hK | hK
  ·have a0 := qk 0 (by omega); have a1 := qk 1 (by omega); have a2 := q2 2 (by omega) (by omega)
   rw [hK] at q3 ⊢
   simp only [List.range_succ, List.range_zero, List.nil_append, List.countP_append, List.countP_singleton, Function.comp, a0, a1, a2, q3]
   simp
  ·have a0 := qk 0 (by omega); have a1 := qk 1 (by omega); have a2 := qk 2 (by omega)
   rw [hK] at q3 ⊢
   simp only [List.range_succ, List.range_zero, List.nil_append, List.countP_append, List.countP_singleton, Function.comp, a0, a1, a2, q3]
open Go.Shelf
def orZ : List Int → Int
 | [] => 0
 | x :: r => if x ≠ 0 then x else orZ r
theorem orZ_at : ∀ {l : List Int} {i : Nat}, (∀ (j : Nat) (x : Int), j < i → l[j]? = some x → x = 0) → orZ l = orZ (l.drop i)
 | [], i, _ => by simp [orZ]
 | b :: r, 0, _ => rfl
 | b :: r, i + 1, h => by
  have h1 := h 0 b (by omega) rfl
  have h3 := orZ_at (l := r) (i := i) (fun j c hj hc => h (j + 1) c (by omega) (by simpa using hc))
  rw [orZ, if_neg (by simp [h1]), h3]
  rfl
theorem s_OrE (w : World) (v : Value) (l : List Int) (hv : Row w v (zs l)) :
 Calls Tryz.prog 40 #[v] w fun e w' => e = .returned (.int .i64 (orZ l)) ∧ w = w' := by
 obtain ⟨a, c, rfl, q1, q2, q3⟩ := hv.openZ
 obtain ⟨n, hn⟩ : ∃ n, l.length = n := ⟨_, rfl⟩
 obtain ⟨X, hX⟩ : ∃ X, orZ l = X := ⟨_, rfl⟩
 rw [hn] at q1 ⊢
 rw [hX]
 have HN := hid hn; have Q3 := hid q3; have HX := hid hX
 clear hv q3 hn hX
 go_enter Tryz.func40, Tryz.ntmps40
 go_wp2_with fail
 go_loop [8] (fun ii => ∃ i : Nat, ii = .int .i64 i ∧ i ≤ n ∧ Hid (∀ (j : Nat) (x : Int), j < i → l[j]? = some x → x = 0)) (fun ii => n - (intOf ii).toNat)
 case atStart => exact ⟨0, rfl, Nat.zero_le _, fun j x hj => absurd hj (by omega)⟩
 case round =>
  obtain ⟨i, rfl, hi, hI⟩ := hrel
  by_cases hlt : i < n
  ·obtain ⟨x, hx⟩ : ∃ x, l[i]? = some x := ⟨_, List.getElem?_eq_getElem (by rw [HN.out]; exact hlt)⟩
   obtain ⟨g, o, rfl, hg, hc⟩ := Q3.out i x hx
   have hdrop : l.drop i = x :: l.drop (i + 1) := by
    have hil : i < l.length := by rw [HN.out]; exact hlt
    rw [List.drop_eq_getElem_cons hil]
    have := List.getElem?_eq_getElem hil
    rw [hx] at this
    rw [Option.some.inj this]
   have HXX := hid hx; have HD := hid hdrop
   have b1 : (0 : Int) ≤ (i : Int) := by omega
   have b2 : (i : Int) < (n : Int) := by omega
   have wi : IntKind.i64.wrap ((i : Int) + 1) = ((i + 1 : Nat) : Int) := by rw [IntWalk.i64_in _ ⟨by omega, by omega⟩]; omega
   clear hx hdrop
   by_cases hx0 : x = 0
   ·have HZ := hid hx0
    have q0 : (x == 0) = true := by rw [beq_iff_eq]; exact hx0
    clear hx0
    go_wp2_with fail
    go_round
    case rel => exact ⟨i + 1, by go_num, by omega, fun j y hj hy => by
     rcases Nat.lt_or_ge j i with h | h
     ·exact hI.out j y h hy
     ·obtain rfl : j = i := by omega
      rw [HXX.out] at hy; cases hy; exact HZ.out⟩
    case measure => simp [intOf] <;> omega
   ·have q0 : (x == 0) = false := by rw [beq_eq_false_iff_ne]; exact hx0
    have HE : Hid (X = x) := by
     show X = x
     rw [← HX.out, orZ_at hI.out, HD.out, orZ, if_pos hx0]
    clear hx0
    go_wp2_with fail
    go_ret
    exact ⟨by rw [HE.out]; rfl, rfl⟩
  ·obtain rfl : i = n := by omega
   have HE : Hid (X = 0) := by
    show X = 0
    have hd : l.drop i = [] := List.drop_eq_nil_of_le (by rw [HN.out]; exact Nat.le_refl _)
    rw [← HX.out, orZ_at hI.out, hd]; rfl
   have q0 : decide ((i : Int) < (i : Int)) = false := by simp
   clear hlt
   go_wp2_with fail
   go_ret
   exact ⟨by rw [HE.out]; rfl, rfl⟩
theorem s_OrI (w : World) (v : Value) (l : List Int) (hv : Row w v (zs l)) :
 Calls Tryz.prog 45 #[v] w fun e w' => e = .returned (.int .i64 (orZ l)) ∧ w = w' := by
 obtain ⟨a, c, rfl, q1, q2, q3⟩ := hv.openZ
 obtain ⟨n, hn⟩ : ∃ n, l.length = n := ⟨_, rfl⟩
 obtain ⟨X, hX⟩ : ∃ X, orZ l = X := ⟨_, rfl⟩
 rw [hn] at q1 ⊢
 rw [hX]
 have HN := hid hn; have Q3 := hid q3; have HX := hid hX
 clear hv q3 hn hX
 go_enter Tryz.func45, Tryz.ntmps45
 go_wp2_with fail
 go_loop [8] (fun ii => ∃ i : Nat, ii = .int .i64 i ∧ i ≤ n ∧ Hid (∀ (j : Nat) (x : Int), j < i → l[j]? = some x → x = 0)) (fun ii => n - (intOf ii).toNat)
 case atStart => exact ⟨0, rfl, Nat.zero_le _, fun j x hj => absurd hj (by omega)⟩
 case round =>
  obtain ⟨i, rfl, hi, hI⟩ := hrel
  by_cases hlt : i < n
  ·obtain ⟨x, hx⟩ : ∃ x, l[i]? = some x := ⟨_, List.getElem?_eq_getElem (by rw [HN.out]; exact hlt)⟩
   obtain ⟨g, o, rfl, hg, hc⟩ := Q3.out i x hx
   have hdrop : l.drop i = x :: l.drop (i + 1) := by
    have hil : i < l.length := by rw [HN.out]; exact hlt
    rw [List.drop_eq_getElem_cons hil]
    have := List.getElem?_eq_getElem hil
    rw [hx] at this
    rw [Option.some.inj this]
   have HXX := hid hx; have HD := hid hdrop
   have b1 : (0 : Int) ≤ (i : Int) := by omega
   have b2 : (i : Int) < (n : Int) := by omega
   have wi : IntKind.i64.wrap ((i : Int) + 1) = ((i + 1 : Nat) : Int) := by rw [IntWalk.i64_in _ ⟨by omega, by omega⟩]; omega
   clear hx hdrop
   by_cases hx0 : x = 0
   ·have HZ := hid hx0
    have q0 : (x == 0) = true := by rw [beq_iff_eq]; exact hx0
    clear hx0
    go_wp2_with fail
    go_round
    case rel => exact ⟨i + 1, by go_num, by omega, fun j y hj hy => by
     rcases Nat.lt_or_ge j i with h | h
     ·exact hI.out j y h hy
     ·obtain rfl : j = i := by omega
      rw [HXX.out] at hy; cases hy; exact HZ.out⟩
    case measure => simp [intOf] <;> omega
   ·have q0 : (x == 0) = false := by rw [beq_eq_false_iff_ne]; exact hx0
    have HE : Hid (X = x) := by
     show X = x
     rw [← HX.out, orZ_at hI.out, HD.out, orZ, if_pos hx0]
    clear hx0
    go_wp2_with fail
    go_ret
    exact ⟨by rw [HE.out]; rfl, rfl⟩
  ·obtain rfl : i = n := by omega
   have HE : Hid (X = 0) := by
    show X = 0
    have hd : l.drop i = [] := List.drop_eq_nil_of_le (by rw [HN.out]; exact Nat.le_refl _)
    rw [← HX.out, orZ_at hI.out, hd]; rfl
   have q0 : decide ((i : Int) < (i : Int)) = false := by simp
   clear hlt
   go_wp2_with fail
   go_ret
   exact ⟨by rw [HE.out]; rfl, rfl⟩
def cmpI (x y : Int) : Int := if x < y then -1 else if y < x then 1 else 0
theorem s_CompareI (w : World) (x y : Int) : Calls Tryz.prog 46 #[.int .i64 x, .int .i64 y] w fun e w' => e = .returned (.int .i64 (cmpI x y)) ∧ w = w' := by
 rcases Int.lt_trichotomy x y with h | h | h
 ·have q1 : decide (x < y) = true := by simpa using h
  have HO := hid (show cmpI x y = -1 from if_pos h)
  clear h
  go_enter Tryz.func46, Tryz.ntmps46
  go_wp2
  go_ret
  exact ⟨ret_int HO.out.symm, rfl⟩
 ·subst h
  have q1 : decide (x < x) = false := by simp
  have HO := hid (show cmpI x x = 0 from by unfold cmpI; rw [if_neg (by omega), if_neg (by omega)])
  go_enter Tryz.func46, Tryz.ntmps46
  go_wp2
  go_ret
  exact ⟨ret_int HO.out.symm, rfl⟩
 ·have q1 : decide (x < y) = false := by simp; omega
  have q2 : decide (y < x) = true := by simpa using h
  have HO := hid (show cmpI x y = 1 from by unfold cmpI; rw [if_neg (by omega), if_pos h])
  clear h
  go_enter Tryz.func46, Tryz.ntmps46
  go_wp2
  go_ret
  exact ⟨ret_int HO.out.symm, rfl⟩
end Go.Proofs.YtckihjfkafdncaaGreatDoor
namespace Go.Proofs.YtckihjfkafdncaaGreatDoor
open Go.RowKit
open Go.Shelf
def btB (k old v was : Int) : Bool := decide (0 < orZ [cmpI v was, cmpI old k])
theorem btB_eq {k old v was : Int} (h : old < k) : btB k old v was = decide (was < v) := by
 unfold btB orZ orZ orZ cmpI
 rw [if_pos h]
 by_cases h1 : v < was
 ·simp [h1]; omega
 ·by_cases h2 : was < v
  ·simp [h1, h2]
  ·simp [h1, h2]
theorem row_two (w : World) (p q : Int) (t : TypeId) : Row (w.alloc (.cells #[.int .i64 p, .int .i64 q] t)) (.slice (some ⟨w.heap.size, 0, none⟩) 2 2) (zs [p, q]) := by
 refine Row.of_blk (n := 2) (xs := zs [p, q]) (Blk.new w #[.int .i64 p, .int .i64 q] t) rfl (by decide) (fun i x hx => ?_) (Nat.le_refl _) (by decide)
 match i, hx with
 | 0, hx => exact hx
 | 1, hx => exact hx
 | i + 2, hx => simp [zs] at hx
theorem fd_better (w : World) (k old v was : Int) : Calls Tryz.prog 44 #[.int .i64 k, .int .i64 old, .int .i64 v, .int .i64 was] w fun e w' => e = .returned (.bool (btB k old v was)) ∧ Below w.heap.size w w' := by
 have C1 := fun V => hid (s_CompareI V v was)
 have C2 := fun V => hid (s_CompareI V old k)
 unfold btB
 obtain ⟨p, hp⟩ : ∃ p, cmpI v was = p := ⟨_, rfl⟩
 obtain ⟨q, hq⟩ : ∃ q, cmpI old k = q := ⟨_, rfl⟩
 rw [hp] at C1 ⊢
 rw [hq] at C2 ⊢
 have CO := fun V v hv => hid (s_OrI V v [p, q] hv)
 obtain ⟨z, hz⟩ : ∃ z, orZ [p, q] = z := ⟨_, rfl⟩
 rw [hz] at CO ⊢
 clear hp hq hz
 go_enter Tryz.func44, Tryz.ntmps44
 go_wp2_with fail
 refine (C1 _).out.mono ?_; rintro e w1 ⟨rfl, rfl⟩
 go_wp2_with fail
 refine (C2 _).out.mono ?_; rintro e w1 ⟨rfl, rfl⟩
 go_wp2_with fail
 refine (CO _ _ (row_two _ _ _ _)).out.mono ?_; rintro e w2 ⟨rfl, rfl⟩
 go_wp2_with fail
 go_ret
 exact ⟨rfl, (Below.refl _ _).alloc (Nat.le_refl _) _⟩
attribute [local go_sem] Oper.semAt_some
structure KpC (n0 : Nat) (W W' : World) : Prop where
 size : W.heap.size ≤ W'.heap.size
 rest : n0 ≤ W.heap.size → Below n0 W W'
theorem KpC.refl (n0 : Nat) (W : World) : KpC n0 W W := ⟨Nat.le_refl _, fun _ => Below.refl _ _⟩
theorem KpC.trans {n0 : Nat} {A B C : World} (h : KpC n0 A B) (k : KpC n0 B C) : KpC n0 A C := ⟨Nat.le_trans h.size k.size, fun h1 => (h.rest h1).trans (k.rest (Nat.le_trans h1 h.size))⟩
theorem KpC.of_below {n0 : Nat} {W W' : World} (h : Below W.heap.size W W') : KpC n0 W W' := ⟨h.size, fun h1 => h.mono h1⟩
theorem KpC.put {n0 : Nat} {w : World} (h1 : n0 ≤ w.heap.size) (W : World) (l : Nat) (o o' : Obj) (hl : w.heap.size ≤ l) (h : W.heap[l]? = some o) (hc : o.isCells = false) (hw : o.isWalk = false) : KpC n0 W (W.putObj l o') := by
 have hs : W.heap.size ≤ (W.putObj l o').heap.size := by simp [World.putObj]
 exact ⟨hs, fun _ => ⟨rfl, rfl, rfl, hs, fun k hk => World.putObj_heap_other (by omega)⟩⟩
theorem keepsF_below {B : Nat} {W W' : World} (h : Below W.heap.size W W') : KeepsFrom B W W' := ⟨h.size, fun k o hk ho hc => (h.block k (Array.getElem?_eq_some_iff.1 ho).1).trans ho⟩
theorem amS_old (l : List Int) : (amS l).2.1 ≤ l.length := by
 by_cases h : l = []
 ·subst h; exact Nat.le_refl _
 ·have := (List.getElem?_eq_some_iff.1 (amS_mx _ l rfl h).at_).1
  omega
theorem amS_lt {l : List Int} (h : l ≠ []) : (amS l).2.1 < l.length := (List.getElem?_eq_some_iff.1 (amS_mx _ l rfl h).at_).1
structure FoldI (T : Nat) (l : List Int) (W : World) : Prop where
 f : Blk W T #[.func (.func 44) #[] #[]] 80
 best : Blk W (T + 1) #[.int .i64 ((amS l).2.1 : Nat)] 3
 many : Blk W (T + 1 + 1) #[.int .i64 (l.length : Nat)] 3
 top : Blk W (T + 1 + 1 + 1) #[.int .i64 (amS l).2.2] 3
theorem FoldI.keptX {T : Nat} {l : List Int} {X Y : World} {row : Option Nat} (h : FoldI T l X) (hg : X.grownBy Y row) (hrow : ∀ r, row = some r → ∃ o : Obj, X.heap[r]? = some o ∧ o.isCells = false) : FoldI T l Y :=
 ⟨h.f.kept hg hrow, h.best.kept hg hrow, h.many.kept hg hrow, h.top.kept hg hrow⟩
theorem fd_fold (w : World) (gf : Nat) (lb : Array Value) (Ok : List (Int × Int) → (Int × Int) → Prop) (S : List (Int × Int) → Prop) (hOk : ∀ pre x, Ok pre x → x.1 = (pre.length : Nat) ∧ pre.length ≤ 1000)
 (hseq : Feeds 8 Tryz.prog gf lb (fun x : Int × Int => #[.int .i64 x.1, .int .i64 x.2]) (KpC w.heap.size) Ok S (fun _ => True) w)
 (eg : ∀ args w, (callFunc gf args).run Tryz.prog w = .ok (.enter gf args) w) :
 Calls Tryz.prog 42 #[.func (.func gf) #[] lb, .func (.func 44) #[] #[]] w fun e w' => (∃ xs, S xs ∧ e = .returned (.tuple #[.int .i64 ((amS (xs.map Prod.snd)).2.1 : Nat), .int .i64 (xs.length : Nat)])) ∧ Below w.heap.size w w' := by
 have HSEQ := hid hseq; have HOK := hid hOk
 clear hseq hOk
 refine (callsIn_wide (n := 9)).1 ?_
 refine callsIn_of_wp_marks Tryz.func42 rfl trivial ?_ rfl
 simp only [Tryz.ntmps42, List.size_toArray, List.length_cons, List.length_nil, Nat.reduceAdd, Nat.reduceSub, Array.replicate_succ, Array.replicate_zero, List.push_toArray, List.append_toArray, List.nil_append, List.cons_append]
 gi_wp2_with fail
 obtain ⟨W0, hW0⟩ : ∃ W0, ((((w.alloc (.cells #[.func (.func 44) #[] #[]] 80)).alloc (.cells #[.int .i64 0] 3)).alloc (.cells #[.int .i64 0] 3)).alloc (.cells #[.int .i64 0] 3)) = W0 := ⟨_, rfl⟩
 have F0 : Hid (FoldI w.heap.size [] W0) := by
  rw [← hW0]
  exact ⟨(((Blk.new w _ _).alloc _).alloc _).alloc _, ((Blk.made _ _ _ (by simp)).alloc _).alloc _, (Blk.made _ _ _ (by simp)).alloc _, Blk.made _ _ _ (by simp)⟩
 have b0 : Hid (Below w.heap.size w W0) := by rw [← hW0]; exact ((((Below.refl _ _).alloc (Nat.le_refl _) _).alloc (by simp <;> omega) _).alloc (by simp <;> omega) _).alloc (by simp <;> omega) _
 have z0 : Hid (W0.heap.size = w.heap.size + 1 + 1 + 1 + 1) := by show _ = _; rw [← hW0]; simp
 rw [hW0]
 clear hW0
 obtain ⟨T, hT⟩ : ∃ T, w.heap.size = T := ⟨_, rfl⟩
 have HT := hid hT
 rw [hT] at F0 z0 ⊢
 have HSEQ2 := HSEQ.out
 refine range_ok (by omega) (gf := gf) (lb := lb) rfl eg HSEQ2 KpC.trans (KpC.put (by have := z0.out; have := HT.out; omega)) b0.out (fun _ => rfl)
  (fun p W => FoldI T (p.map Prod.snd) W ∧ Below w.heap.size w W)
  (fun c p W => False)
  (OwnFrom.and (fun s X Y row hs hg hr => hs.keptX hg (fun r e => (hr r e).2)) (ownFrom_below (Nat.le_refl _) (by have := z0.out; have := HT.out; omega)))
  (fun c s X Y row hs hg hr => hs)
  ⟨F0.out, b0.out⟩ ?act ?assign ?body ?done ?stop
 case assign =>
  intro l x W K hK
  gi_wp2
  exact hK
 case body =>
  rintro l p ⟨k, v⟩ W hOk ⟨hF, hB⟩
  obtain ⟨o1, o2⟩ := HOK.out _ _ hOk
  dsimp only at o1
  obtain ⟨vs, hvs⟩ : ∃ vs, p.map Prod.snd = vs := ⟨_, rfl⟩
  have hl : vs.length = p.length := by rw [← hvs, List.length_map]
  rw [hvs] at hF
  have hsn : (p ++ [(k, v)]).map Prod.snd = vs ++ [v] := by rw [List.map_append, hvs]; rfl
  rw [← hl] at o1 o2
  obtain ⟨n, hn⟩ : ∃ n, vs.length = n := ⟨_, rfl⟩
  have hold := amS_old vs
  have hsn2 : amS (vs ++ [v]) = if n = 0 ∨ (amS vs).2.2 < v then (n + 1, n, v) else (n + 1, (amS vs).2.1, (amS vs).2.2) := by
   rw [amS_snoc]
   unfold amT
   rw [amS_len, hn]
  have hlt0 : n ≠ 0 → (amS vs).2.1 < n := fun h => by
   have := amS_lt (l := vs) (fun e => h (by rw [← hn, e]; rfl))
   rwa [hn] at this
  have hl2 : (vs ++ [v]).length = n + 1 := by rw [List.length_append, List.length_singleton, hn]
  have B1 := hF.f; have B2 := hF.best; have B3 := hF.many; have B4 := hF.top
  obtain ⟨b, hb⟩ : ∃ b, (amS vs).2.1 = b := ⟨_, rfl⟩
  obtain ⟨tp, htp⟩ : ∃ tp, (amS vs).2.2 = tp := ⟨_, rfl⟩
  rw [hb] at B2 hsn2 hlt0
  rw [htp] at B4 hsn2
  rw [hn] at B3 o1 o2
  subst o1
  have r0 := B1.cell 0
  have r1 := B2.cell 0
  have r2 := B3.cell 0
  have r3 := B4.cell 0
  have f1 := B2.free 0
  have f2 := B3.free 0
  have f3 := B4.free 0
  simp at r0 r1 r2 r3
  have wn : IntKind.i64.wrap ((n : Int) + 1) = ((n + 1 : Nat) : Int) := by rw [IntWalk.i64_in _ ⟨by omega, by omega⟩]; omega
  have HB1 := hid B1; have HB2 := hid B2; have HB3 := hid B3; have HB4 := hid B4
  have HBl := hid hB; have HSN := hid hsn; have HS2 := hid hsn2; have HL2 := hid hl2
  have HLT0 := hid hlt0
  clear B1 B2 B3 B4 hB hF hsn hsn2 hl2 hold hOk hvs hl hn hb htp hlt0 hT
  -- the world behind a better value, behind another one
  have new : ∀ V, Below W.heap.size W V → amS (vs ++ [v]) = (n + 1, n, v) → ∀ (X : World), X = (((V.setCell ⟨T + 1, 0, none⟩ (.int .i64 (n : Nat))).setCell ⟨T + 1 + 1 + 1, 0, none⟩ (.int .i64 v)).setCell ⟨T + 1 + 1, 0, none⟩ (.int .i64 ((n + 1 : Nat) : Int))) → KeepsFrom W0.heap.size W X ∧ KpC w.heap.size W X ∧ FoldI T ((p ++ [(((n : Nat) : Int), v)]).map Prod.snd) X ∧ Below w.heap.size w X := fun V hV hs X hX => by
   subst hX
   have ht := HT.out
   have kb : Below w.heap.size W (((V.setCell ⟨T + 1, 0, none⟩ (.int .i64 (n : Nat))).setCell ⟨T + 1 + 1 + 1, 0, none⟩ (.int .i64 v)).setCell ⟨T + 1 + 1, 0, none⟩ (.int .i64 ((n + 1 : Nat) : Int))) :=
    (((hV.mono HBl.out.size).setCell (by simp <;> omega) _).setCell (by simp <;> omega) _).setCell (by simp <;> omega) _
   refine ⟨(keepsF_below hV).trans ((((KeepsOthers.setCell _ _ _).trans (KeepsOthers.setCell _ _ _)).trans (KeepsOthers.setCell _ _ _)).from _), ⟨kb.size, fun _ => kb⟩, ?_, HBl.out.trans kb⟩
   rw [HSN.out]
   have a1 := HB1.out.call hV
   have a2 := HB2.out.call hV
   have a3 := HB3.out.call hV
   have a4 := HB4.out.call hV
   refine ⟨((a1.other (by simp <;> omega) _).other (by simp <;> omega) _).other (by simp <;> omega) _, ?_, ?_, ?_⟩
   ·rw [hs]
    exact ((a2.set 0 _).other (by simp <;> omega) _).other (by simp <;> omega) _
   ·rw [HL2.out]
    exact ((a3.other (by simp <;> omega) _).other (by simp <;> omega) _).set 0 _
   ·rw [hs]
    exact ((a4.other (by simp <;> omega) _).set 0 _).other (by simp <;> omega) _
  have old : ∀ V, Below W.heap.size W V → amS (vs ++ [v]) = (n + 1, b, tp) → ∀ (X : World), X = (V.setCell ⟨T + 1 + 1, 0, none⟩ (.int .i64 ((n + 1 : Nat) : Int))) → KeepsFrom W0.heap.size W X ∧ KpC w.heap.size W X ∧ FoldI T ((p ++ [(((n : Nat) : Int), v)]).map Prod.snd) X ∧ Below w.heap.size w X := fun V hV hs X hX => by
   subst hX
   have ht := HT.out
   have kb : Below w.heap.size W (V.setCell ⟨T + 1 + 1, 0, none⟩ (.int .i64 ((n + 1 : Nat) : Int))) := (hV.mono HBl.out.size).setCell (by simp <;> omega) _
   refine ⟨(keepsF_below hV).trans ((KeepsOthers.setCell _ _ _).from _), ⟨kb.size, fun _ => kb⟩, ?_, HBl.out.trans kb⟩
   rw [HSN.out]
   have a1 := HB1.out.call hV
   have a2 := HB2.out.call hV
   have a3 := HB3.out.call hV
   have a4 := HB4.out.call hV
   refine ⟨a1.other (by simp <;> omega) _, ?_, ?_, ?_⟩
   ·rw [hs]; exact a2.other (by simp <;> omega) _
   ·rw [HL2.out]; exact a3.set 0 _
   ·rw [hs]; exact a4.other (by simp <;> omega) _
  have NEW := hid new; have OLD := hid old
  clear new old
  by_cases hn0 : n = 0
  ·have hs := HS2.out
   rw [if_pos (.inl hn0)] at hs
   have HS3 := hid hs
   have q0 : ((n : Int) == 0) = true := by rw [beq_iff_eq]; omega
   clear hs hn0
   gi_wp2_with fail
   refine ⟨fun f hf => (by cases hf), ?_⟩
   gi_wp2_with fail
   exact NEW.out W (Below.refl _ _) HS3.out _ rfl
  ·have q0 : ((n : Int) == 0) = false := by rw [beq_eq_false_iff_ne]; omega
   have hbt : btB (n : Int) (b : Int) v tp = decide (tp < v) := btB_eq (by have := HLT0.out hn0; omega)
   have PB := fun V => hid (fd_better V (n : Int) (b : Int) v tp)
   rw [hbt] at PB
   by_cases hlt : tp < v
   ·have hs := HS2.out
    rw [if_pos (.inr hlt)] at hs
    rw [decide_eq_true hlt] at PB
    have HS3 := hid hs
    clear hs hn0 hlt hbt
    gi_wp2_with fail
    clear r1 r2 r3 f1 f2 f3
    refine ⟨trivial, ?_⟩
    refine (CallsIn.inRound _ (callsIn_wide.2 (PB _).out)).mono ?_; rintro e w1 ⟨rfl, hb1⟩
    have y1 := hid hb1
    have r1 := (HB2.out.call hb1).cell 0
    have r2 := (HB3.out.call hb1).cell 0
    have r3 := (HB4.out.call hb1).cell 0
    have f1 := (HB2.out.call hb1).free 0
    have f2 := (HB3.out.call hb1).free 0
    have f3 := (HB4.out.call hb1).free 0
    simp at r1 r2 r3
    clear hb1
    gi_wp2_with fail
    exact NEW.out w1 y1.out HS3.out _ rfl
   ·have hs := HS2.out
    rw [if_neg (by omega)] at hs
    rw [decide_eq_false hlt] at PB
    have HS3 := hid hs
    clear hs hn0 hlt hbt
    gi_wp2_with fail
    clear r1 r2 r3 f1 f2 f3
    refine ⟨trivial, ?_⟩
    refine (CallsIn.inRound _ (callsIn_wide.2 (PB _).out)).mono ?_; rintro e w1 ⟨rfl, hb1⟩
    have y1 := hid hb1
    have r1 := (HB2.out.call hb1).cell 0
    have r2 := (HB3.out.call hb1).cell 0
    have r3 := (HB4.out.call hb1).cell 0
    have f1 := (HB2.out.call hb1).free 0
    have f2 := (HB3.out.call hb1).free 0
    have f3 := (HB4.out.call hb1).free 0
    simp at r1 r2 r3
    clear hb1
    gi_wp2_with fail
    exact OLD.out w1 y1.out HS3.out _ rfl
 case done =>
  rintro D' xs W hD hS ⟨hF, hB⟩ hK
  have B2 := hF.best; have B3 := hF.many
  obtain ⟨vs, hvs⟩ : ∃ vs, xs.map Prod.snd = vs := ⟨_, rfl⟩
  have hl : vs.length = xs.length := by rw [← hvs, List.length_map]
  rw [hvs] at B2 B3
  rw [hl] at B3
  have r1 := B2.cell 0
  have r2 := B3.cell 0
  have f1 := B2.free 0
  have f2 := B3.free 0
  simp at r1 r2
  have HB2 := hid B2; have HB3 := hid B3; have HBl := hid hB; have HK := hid hK; have HDD := hid hD; have HS := hid hS; have HV := hid hvs
  clear B2 B3 hF hB hK hD hS hvs hl hT
  have g1 : (T + 1 = T + 1 + 1) = False := by simp
  have g2 : (T + 1 + 1 = T + 1) = False := by simp
  gi_wp2_with fail
  gi_region
  gi_wp2_with fail
  have q1 := ((HB2.out.set 0 (.int .i64 ((amS vs).2.1 : Nat))).other (a := ⟨T + 1 + 1, 0, none⟩) (by simp) (.int .i64 (xs.length : Nat))).call ((Below.refl _ _).drew)
  have q2 := ((HB3.out.other (a := ⟨T + 1, 0, none⟩) (by simp) (.int .i64 ((amS vs).2.1 : Nat))).set 0 (.int .i64 (xs.length : Nat))).call ((Below.refl _ _).drew)
  have hk3 := ((((KeepsOthers.setCell W ⟨T + 1, 0, none⟩ (.int .i64 ((amS vs).2.1 : Nat))).trans (KeepsOthers.setCell _ ⟨T + 1 + 1, 0, none⟩ (.int .i64 (xs.length : Nat)))).trans (KeepsOthers.drew _))).same D' _ HK.out rfl
  have p1 := (q1.put hk3 (.deferred none)).cell 0
  have p2 := (q2.put hk3 (.deferred none)).cell 0
  simp at p1 p2
  have h9 := HDD.out; have hz := z0.out; have ht := HT.out
  refine marks_end hk3 (v := .tuple #[.int .i64 ((amS vs).2.1 : Nat), .int .i64 (xs.length : Nat)]) (by simp [results, Tryz.results42, go_sem, p1, p2]) ⟨⟨xs, HS.out, by rw [HV.out]⟩, ?_⟩
  exact (((HBl.out.setCell (by simp <;> omega) _).setCell (by simp <;> omega) _).drew).trans (belowK_b (w := w) (Nat.le_refl _) _ D' _ _ (by omega) hk3 rfl rfl)
 case stop => exact fun D' c p W hD _ hF _ => hF.elim
open Go.Lib (decDigits nDigits)
attribute [local go_sem] Oper.semAt_some
def NzOk (c : List Int) (a : ByteArray) (bs : List ByteArray) (pre : List (Int × Int)) : Prop := ∀ (k : Nat) (x : Int × Int), pre[k]? = some x → ∃ n b, c[k]? = some n ∧ bs[k]? = some b ∧ x.1 = (k : Nat) ∧ nz1 false a n b = some x.2
def nzNext (c : List Int) (a : ByteArray) (bs : List ByteArray) (pre : List (Int × Int)) (x : Int × Int) : Prop := ∃ n b, c[pre.length]? = some n ∧ bs[pre.length]? = some b ∧ x.1 = (pre.length : Nat) ∧ nz1 false a n b = some x.2
def nzStop (c : List Int) (a : ByteArray) (bs : List ByteArray) (pre : List (Int × Int)) : Prop := pre.length = c.length ∨ ∃ n b, c[pre.length]? = some n ∧ bs[pre.length]? = some b ∧ nz1 false a n b = none
theorem NzOk.snoc {c : List Int} {a : ByteArray} {bs : List ByteArray} {pre : List (Int × Int)} {x : Int × Int} (h : NzOk c a bs pre) (hx : nzNext c a bs pre x) : NzOk c a bs (pre ++ [x]) := fun k y hy => by
 rw [List.getElem?_append] at hy
 split at hy
 ·exact h k y hy
 ·by_cases h0 : k - pre.length = 0
  ·rw [h0] at hy
   cases hy
   obtain rfl : k = pre.length := by omega
   exact hx
  ·obtain ⟨q, hq⟩ : ∃ q, k - pre.length = q + 1 := ⟨k - pre.length - 1, by omega⟩
   rw [hq] at hy; simp at hy
theorem fd_noisy (w : World) (s : Option Addr) (n k : Nat) (a : ByteArray) (t : Option Addr) (n2 k2 : Nat) :
 Calls Tryz.prog 43 #[.slice s n k, .string a, .slice t n2 k2] w fun e w' => e = .returned (.func (.func 91) #[] #[.pointer (some ⟨w.heap.size, 0, none⟩), .pointer (some ⟨w.heap.size + 1, 0, none⟩), .pointer (some ⟨w.heap.size + 1 + 1, 0, none⟩)]) ∧ w' = ((w.alloc (.cells #[.slice s n k] 24)).alloc (.cells #[.string a] 22)).alloc (.cells #[.slice t n2 k2] 30) := by
 go_enter Tryz.func43, Tryz.ntmps43
 go_wp2_with fail
 go_ret
 exact ⟨rfl, rfl⟩
theorem noisy_feeds {Kp : World → World → Prop} (n : Nat) (hn : 1 ≤ n) (w : World) (bc ba bb : Nat) (vc vb : Value) (c : List Int) (a : ByteArray) (bs : List ByteArray) (ha : a.size ≤ 100000) (hbs : ∀ b ∈ bs, b.size ≤ 256) (hlen : c.length = bs.length) (hcl : c.length ≤ 256) (hcr : ∀ x ∈ c, -1125899906842624 ≤ x ∧ x ≤ 1125899906842624)
 (hKr : ∀ W, Kp W W) (hKt : ∀ {A B C : World}, Kp A B → Kp B C → Kp A C)
 (hread : ∀ W1 W2, Below w.heap.size w W1 → Kp W1 W2 → W2.cell? ⟨bc, 0, none⟩ = some vc ∧ W2.cell? ⟨ba, 0, none⟩ = some (.string a) ∧ W2.cell? ⟨bb, 0, none⟩ = some vb ∧ Row W2 vc (zs c) ∧ Row W2 vb (strs bs) ∧ Lay W2) (hKb : ∀ W1 W2, Below W1.heap.size W1 W2 → Kp W1 W2) :
 Feeds n Tryz.prog 91 #[.pointer (some ⟨bc, 0, none⟩), .pointer (some ⟨ba, 0, none⟩), .pointer (some ⟨bb, 0, none⟩)] (fun x : Int × Int => #[.int .i64 x.1, .int .i64 x.2]) Kp (nzNext c a bs) (fun xs => NzOk c a bs xs ∧ nzStop c a bs xs) (fun _ => True) w := by
 intro l J Jx W hW hJ hJx hY h0
 have HR := hid hread; have HY := hid hY; have HW := hid hW; have HJ := hid hJ; have HJx := hid hJx
 have HKr := hid hKr; have HKt : Hid (∀ A B C : World, Kp A B → Kp B C → Kp A C) := fun A B C h k => hKt h k
 have HKb := hid hKb
 have HA := hid ha; have HBS := hid hbs; have HCR := hid hcr; have HLN := hid hlen
 obtain ⟨c0, -, -, r0, -, -⟩ := hread W W hW (hKr W)
 obtain ⟨s, cp, rfl, q1, q2, -⟩ := r0.openZ
 obtain ⟨N, hN⟩ : ∃ N, c.length = N := ⟨_, rfl⟩
 have HN := hid hN
 rw [hN] at HR c0 q1 hcl
 clear hread hY hW hJ hJx hKr hKt hKb ha hbs hcr hlen r0 hN
 refine callsIn_of_wp Tryz.func91 rfl trivial ?_ rfl
 simp only [Tryz.ntmps91, List.size_toArray, List.length_cons, List.length_nil, Nat.reduceAdd, Nat.reduceSub, Array.replicate_succ, Array.replicate_zero, List.push_toArray, List.append_toArray, List.nil_append, List.cons_append]
 gi_wp2
 gi_loopw [11] (fun ii wr => ∃ p : List (Int × Int), ii = .int .i64 (p.length : Nat) ∧ p.length ≤ N ∧ Hid (NzOk c a bs p) ∧ Hid (J p wr) ∧ Hid (Kp W wr)) (fun ii wr => N - (intOf ii).toNat)
 case atStart => exact ⟨[], rfl, Nat.zero_le _, fun k x hx => by simp at hx, h0, HKr.out W⟩
 case round =>
  obtain ⟨pre, rfl, hp, hO, hJ, hK⟩ := hrel
  obtain ⟨i, hi⟩ : ∃ i, pre.length = i := ⟨_, rfl⟩
  have HI := hid hi
  rw [hi] at hp ⊢
  clear hi
  by_cases hlt : i < N
  ·obtain ⟨x, hx⟩ : ∃ x, c[i]? = some x := ⟨_, List.getElem?_eq_getElem (by rw [HN.out]; exact hlt)⟩
   obtain ⟨b, hb⟩ : ∃ b, bs[i]? = some b := ⟨_, List.getElem?_eq_getElem (by have := HLN.out; have := HN.out; omega)⟩
   obtain ⟨-, c1, c2, hrow, hrowb, hLay⟩ := HR.out W wr HW.out hK.out
   obtain ⟨a', c', e, -, -, hcell⟩ := hrow.openZ
   simp only [Value.slice.injEq] at e
   obtain ⟨rfl, -, rfl⟩ := e
   obtain ⟨g, o, rfl, hg, hc⟩ := hcell i x hx
   obtain ⟨a2, k2, rfl, -, -, hcell2⟩ := hrowb.openS
   obtain ⟨g2, o2, rfl, hg2, hc2⟩ := hcell2 i b hb
   obtain ⟨N2, hN2⟩ : ∃ N2, bs.length = N2 := ⟨_, rfl⟩
   have hi2 : i < N2 := by have := HLN.out; have := HN.out; omega
   rw [hN2] at c2
   have q4 := fun V hV => hid (g_One V a b HA.out (by have := HBS.out b (List.mem_of_getElem? hb); omega) hV)
   obtain ⟨t, ht⟩ : ∃ t, oT a b = t := ⟨_, rfl⟩
   obtain ⟨ge, hge⟩ : ∃ y, gE a b = y := ⟨_, rfl⟩
   rw [ht, hge] at q4
   have hvb := oT_bound a b (by have := HBS.out b (List.mem_of_getElem? hb); omega)
   rw [ht] at hvb
   have hz1 : nz1 false a x b = if t.1 = true then some (x + t.2.1) else none := by rw [← ht]; unfold nz1; simp only [Bool.false_eq_true, if_false]
   have hxr := HCR.out x (List.mem_of_getElem? hx)
   have HX := hid hx; have HB := hid hb; have HZ1 := hid hz1; have HLay := hid hLay; have HVB := hid hvb; have HXR := hid hxr
   have b1 : (0 : Int) ≤ (i : Int) := by omega
   have b2 : (i : Int) < (N : Int) := by omega
   have b3 : (i : Int) < (N2 : Int) := by omega
   have wi : IntKind.i64.wrap ((i : Int) + 1) = (i : Int) + 1 := by rw [IntWalk.i64_in _ ⟨by omega, by omega⟩]
   clear hx hb hrow hrowb hLay hcell hcell2 ht hge hvb hz1 hxr hN2 hi2
   obtain ⟨d, v, u⟩ := t
   simp only [d3] at q4
   gi_wp2_with fail
   refine wpIn_wide.2 ?_
   refine held_plain [0, 1, 2, 3, 4] 7 (fun W' => W'.cell? ⟨ba, 0, none⟩ = some (.string a) ∧ W'.cell? ⟨bb, 0, none⟩ = some (.slice (some ⟨g2, o2, none⟩) N2 k2) ∧ W'.cell? ⟨g2, o2 + i, none⟩ = some (.string b)) (by kernel_rfl) (by kernel_rfl) (by kernel_rfl) (by kernel_rfl) ⟨c1, c2, hc2⟩ ?_
   iterate 5
    refine ⟨_, rfl, ?_⟩
    apply Exists.intro
    refine ⟨.inl ⟨by rfl, ?_⟩, ?_⟩
    ·(intro W' hW'; obtain ⟨q1, q2, q3⟩ := hW'; go_simp; try (with_reducible rfl))
    (dsimp only [Act.put]; try simp only [List.setIfInBounds_toArray, List.set_cons_zero, List.set_cons_succ])
   refine held_two (i := 5) (j := 9) (by kernel_rfl) (by rfl) (by rfl) (by rfl) (by rfl) ?_ ?_
   ·go_wp2_with fail
    refine (q4 _ (HLay.out.call (Below.refl _ _).drew)).out.mono ?_; rintro e w1 ⟨rfl, hb1⟩
    have y1 := hid (show Below wr.heap.size wr w1 from (Below.refl _ _).drew.trans hb1)
    have s0 := (y1.out.cell (cell_lt c1)).trans c1
    have s1 := (y1.out.cell (cell_lt c2)).trans c2
    have s2 := (y1.out.cell (cell_lt hc2)).trans hc2
    clear hb1
    go_wp2_with fail
    refine ⟨⟨s0, s1, s2⟩, ?_⟩
    refine held_more (is := [6, 7, 8]) (g := 3) (by kernel_rfl) rfl ⟨s0, s1, s2⟩ (by kernel_rfl) ?_
    iterate 3
     refine ⟨_, rfl, ?_⟩
     apply Exists.intro
     refine ⟨.inl ⟨by rfl, ?_⟩, ?_⟩
     ·(intro W' hW'; obtain ⟨q1, q2, q3⟩ := hW'; go_simp; try (with_reducible rfl))
     (dsimp only [Act.put]; try simp only [List.setIfInBounds_toArray, List.set_cons_zero, List.set_cons_succ])
    refine held_one (i := 9) (by kernel_rfl) (by rfl) (by rfl) ?_
    go_wp2_with fail
    have a1 := ((Below.refl w1.heap.size w1).alloc (Nat.le_refl _) (.cells #[.bool false, .int .i64 0, .int .i64 0] 94))
    have bk := Blk.new w1 #[.bool false, .int .i64 0, .int .i64 0] 94
    obtain ⟨dB, hdB⟩ : ∃ n, w1.heap.size = n := ⟨_, rfl⟩
    have HDB : Hid (wr.heap.size ≤ dB) := by show wr.heap.size ≤ dB; rw [← hdB]; exact y1.out.size
    obtain ⟨w2, hw2⟩ : ∃ w2, w1.alloc (.cells #[.bool false, .int .i64 0, .int .i64 0] 94) = w2 := ⟨_, rfl⟩
    rw [hw2] at a1 bk ⊢
    rw [hdB] at a1 bk ⊢
    have BK := hid bk
    have y2 := hid (y1.out.trans (a1.mono HDB.out))
    clear s0 s1 s2 a1 bk hdB hw2
    have s0 := (y2.out.cell (cell_lt c1)).trans c1
    have s1 := (y2.out.cell (cell_lt c2)).trans c2
    have s2 := (y2.out.cell (cell_lt hc2)).trans hc2
    refine ⟨⟨s0, s1, s2⟩, ?_⟩
    refine held_one (i := 10) (by kernel_rfl) (by rfl) (by rfl) ?_
    have r0 : w2.cell? ⟨dB, 0, none⟩ = some (.bool false) := BK.out.cell 0
    have r1 : w2.cell? ⟨dB, 1, none⟩ = some (.int .i64 0) := BK.out.cell 1
    have r2 : w2.cell? ⟨dB, 2, none⟩ = some (.int .i64 0) := BK.out.cell 2
    have f0 := BK.out.free 0
    have f1 := BK.out.free 1
    have f2 := BK.out.free 2
    clear s0 s1 s2
    go_wp2_with fail
    have bk3 : Blk (((w2.setCell ⟨dB, 0, none⟩ (.bool d)).setCell ⟨dB, 1, none⟩ (.int .i64 v)).setCell ⟨dB, 2, none⟩ (.int .i64 u)) dB #[.bool d, .int .i64 v, .int .i64 u] 94 := by
     have := ((BK.out.set 0 (.bool d)).set 1 (.int .i64 v)).set 2 (.int .i64 u)
     simpa using this
    have y3 : Below wr.heap.size wr (((w2.setCell ⟨dB, 0, none⟩ (.bool d)).setCell ⟨dB, 1, none⟩ (.int .i64 v)).setCell ⟨dB, 2, none⟩ (.int .i64 u)) :=
     have hge : wr.heap.size ≤ dB := HDB.out
     ((y2.out.setCell hge _).setCell hge _).setCell hge _
    obtain ⟨V, hV⟩ : ∃ V, ((w2.setCell ⟨dB, 0, none⟩ (.bool d)).setCell ⟨dB, 1, none⟩ (.int .i64 v)).setCell ⟨dB, 2, none⟩ (.int .i64 u) = V := ⟨_, rfl⟩
    rw [hV] at bk3 y3 ⊢
    have s0 := (y3.cell (cell_lt c1)).trans c1
    have s1 := (y3.cell (cell_lt c2)).trans c2
    have s2 := (y3.cell (cell_lt hc2)).trans hc2
    have BV := hid bk3; have YV := hid y3
    clear hV bk3 y3 r0 r1 r2 f0 f1 f2
    refine ⟨⟨s0, s1, s2⟩, ?_⟩
    refine held_one (i := 11) (by kernel_rfl) (by rfl) (by rfl) ?_
    go_wp2_with fail
    refine ⟨⟨s0, s1, s2⟩, ?_⟩
    refine wpAnyH_done (by kernel_rfl) ?_ _
    simp only [Only]
    have e0 : V.cell? ⟨dB, 0, none⟩ = some (.bool d) := BV.out.cell 0
    have e1 : V.cell? ⟨dB, 1, none⟩ = some (.int .i64 v) := BV.out.cell 1
    have e2 : V.cell? ⟨dB, 2, none⟩ = some (.int .i64 u) := BV.out.cell 2
    have ew : IntKind.i64.wrap (x + v) = x + v := by
     have h1 := HVB.out; have h2 := HXR.out
     rw [IntWalk.i64_in _ ⟨by omega, by omega⟩]
    clear s0 s1 s2
    have hJV : J pre V := HJ.out pre wr V none hJ.out ⟨YV.out.os, YV.out.tape, YV.out.output, YV.out.size, fun k hk _ => YV.out.block k hk⟩ (fun r e => by cases e)
    have hKV : Kp W V := HKt.out _ _ _ hK.out (HKb.out _ _ YV.out)
    have HJV := hid hJV; have HKV := hid hKV
    clear hJV hKV
    cases d
    ·gi_wp2_with fail
     refine ⟨fun f hf => (by cases hf), ?_⟩
     gi_wp2_with fail
     refine bodyPost_ret (results_none rfl _ _ _) rfl ?_
     exact ⟨⟨_, rfl⟩, .inl ⟨pre, ⟨hO.out, .inr ⟨x, b, by rw [HI.out]; exact HX.out, by rw [HI.out]; exact HB.out, HZ1.out⟩⟩, HJV.out⟩⟩
    ·have hnx : nzNext c a bs pre (((i : Nat) : Int), x + v) := ⟨x, b, by rw [HI.out]; exact HX.out, by rw [HI.out]; exact HB.out, by rw [HI.out], HZ1.out⟩
     have HNX := hid hnx
     obtain ⟨fn, tmps, assign, body, hy, hR⟩ := HY.out pre (((i : Nat) : Int), x + v) V hnx HJV.out
     dsimp only at hy
     have HYR := hid hR
     clear hnx hR
     gi_wp2_with fail
     refine HYR.out.mono ?_
     rintro e W3 (⟨rfl, hJ3, hk3⟩ | ⟨rfl, hJx3⟩)
     ·have HJ3 := hid hJ3; have HK3 := hid (HKt.out _ _ _ HKV.out hk3)
      clear hJ3 hk3 hy
      gi_wp2_with fail
      go_roundw
      case rel => exact ⟨pre ++ [(((i : Nat) : Int), x + v)], by rw [List.length_append, List.length_singleton, HI.out]; rfl, by rw [List.length_append, List.length_singleton, HI.out]; omega, hO.out.snoc HNX.out, HJ3, HK3⟩
      case measure => simp [intOf] <;> omega
     ·clear hy
      gi_wp2_with fail
      refine bodyPost_ret (results_none rfl _ _ _) rfl ?_
      exact ⟨⟨_, rfl⟩, .inr ⟨_, trivial, hJx3⟩⟩
   ·go_wp2_with fail
    have b0 : Blk (wr.alloc (.cells #[.bool false, .int .i64 0, .int .i64 0] 94)).drew wr.heap.size #[.bool false, .int .i64 0, .int .i64 0] 94 := Blk.new wr #[.bool false, .int .i64 0, .int .i64 0] 94
    have a0 : Below wr.heap.size wr (wr.alloc (.cells #[.bool false, .int .i64 0, .int .i64 0] 94)).drew := ((Below.refl _ _).alloc (Nat.le_refl _) _).drew
    obtain ⟨dB, hdB⟩ : ∃ n, wr.heap.size = n := ⟨_, rfl⟩
    have HDB : Hid (wr.heap.size ≤ dB) := by show wr.heap.size ≤ dB; rw [← hdB]; exact Nat.le_refl _
    obtain ⟨w1, hw1⟩ : ∃ w1, (wr.alloc (.cells #[.bool false, .int .i64 0, .int .i64 0] 94)).drew = w1 := ⟨_, rfl⟩
    rw [hw1] at b0 a0 ⊢
    rw [hdB] at b0 ⊢
    have A0 := hid a0; have BB0 := hid b0
    have s0 := (a0.cell (cell_lt c1)).trans c1
    have s1 := (a0.cell (cell_lt c2)).trans c2
    have s2 := (a0.cell (cell_lt hc2)).trans hc2
    clear hw1 hdB a0 b0
    refine ⟨⟨s0, s1, s2⟩, ?_⟩
    refine held_one (i := 5) (by kernel_rfl) (by rfl) (by rfl) ?_
    go_wp2_with fail
    refine (q4 _ (HLay.out.call A0.out)).out.mono ?_; rintro e w2 ⟨rfl, hb2⟩
    have y2 := hid (A0.out.trans (hb2.mono A0.out.size))
    have BK := hid (BB0.out.call hb2)
    clear hb2 s0 s1 s2
    have s0 := (y2.out.cell (cell_lt c1)).trans c1
    have s1 := (y2.out.cell (cell_lt c2)).trans c2
    have s2 := (y2.out.cell (cell_lt hc2)).trans hc2
    go_wp2_with fail
    refine ⟨⟨s0, s1, s2⟩, ?_⟩
    refine held_more (is := [6, 7, 8]) (g := 2) (by kernel_rfl) rfl ⟨s0, s1, s2⟩ (by kernel_rfl) ?_
    iterate 3
     refine ⟨_, rfl, ?_⟩
     apply Exists.intro
     refine ⟨.inl ⟨by rfl, ?_⟩, ?_⟩
     ·(intro W' hW'; obtain ⟨q1, q2, q3⟩ := hW'; go_simp; try (with_reducible rfl))
     (dsimp only [Act.put]; try simp only [List.setIfInBounds_toArray, List.set_cons_zero, List.set_cons_succ])
    have r0 : w2.cell? ⟨dB, 0, none⟩ = some (.bool false) := BK.out.cell 0
    have r1 : w2.cell? ⟨dB, 1, none⟩ = some (.int .i64 0) := BK.out.cell 1
    have r2 : w2.cell? ⟨dB, 2, none⟩ = some (.int .i64 0) := BK.out.cell 2
    have f0 := BK.out.free 0
    have f1 := BK.out.free 1
    have f2 := BK.out.free 2
    refine held_one (i := 10) (by kernel_rfl) (by rfl) (by rfl) ?_
    clear s0 s1 s2
    go_wp2_with fail
    have bk3 : Blk (((w2.setCell ⟨dB, 0, none⟩ (.bool d)).setCell ⟨dB, 1, none⟩ (.int .i64 v)).setCell ⟨dB, 2, none⟩ (.int .i64 u)) dB #[.bool d, .int .i64 v, .int .i64 u] 94 := by
     have := ((BK.out.set 0 (.bool d)).set 1 (.int .i64 v)).set 2 (.int .i64 u)
     simpa using this
    have y3 : Below wr.heap.size wr (((w2.setCell ⟨dB, 0, none⟩ (.bool d)).setCell ⟨dB, 1, none⟩ (.int .i64 v)).setCell ⟨dB, 2, none⟩ (.int .i64 u)) :=
     have hge : wr.heap.size ≤ dB := HDB.out
     ((y2.out.setCell hge _).setCell hge _).setCell hge _
    obtain ⟨V, hV⟩ : ∃ V, ((w2.setCell ⟨dB, 0, none⟩ (.bool d)).setCell ⟨dB, 1, none⟩ (.int .i64 v)).setCell ⟨dB, 2, none⟩ (.int .i64 u) = V := ⟨_, rfl⟩
    rw [hV] at bk3 y3 ⊢
    have s0 := (y3.cell (cell_lt c1)).trans c1
    have s1 := (y3.cell (cell_lt c2)).trans c2
    have s2 := (y3.cell (cell_lt hc2)).trans hc2
    have BV := hid bk3; have YV := hid y3
    clear hV bk3 y3 r0 r1 r2 f0 f1 f2
    refine ⟨⟨s0, s1, s2⟩, ?_⟩
    refine held_one (i := 11) (by kernel_rfl) (by rfl) (by rfl) ?_
    go_wp2_with fail
    refine ⟨⟨s0, s1, s2⟩, ?_⟩
    refine wpAnyH_done (by kernel_rfl) ?_ _
    simp only [Only]
    have e0 : V.cell? ⟨dB, 0, none⟩ = some (.bool d) := BV.out.cell 0
    have e1 : V.cell? ⟨dB, 1, none⟩ = some (.int .i64 v) := BV.out.cell 1
    have e2 : V.cell? ⟨dB, 2, none⟩ = some (.int .i64 u) := BV.out.cell 2
    have ew : IntKind.i64.wrap (x + v) = x + v := by
     have h1 := HVB.out; have h2 := HXR.out
     rw [IntWalk.i64_in _ ⟨by omega, by omega⟩]
    clear s0 s1 s2
    have hJV : J pre V := HJ.out pre wr V none hJ.out ⟨YV.out.os, YV.out.tape, YV.out.output, YV.out.size, fun k hk _ => YV.out.block k hk⟩ (fun r e => by cases e)
    have hKV : Kp W V := HKt.out _ _ _ hK.out (HKb.out _ _ YV.out)
    have HJV := hid hJV; have HKV := hid hKV
    clear hJV hKV
    cases d
    ·gi_wp2_with fail
     refine ⟨fun f hf => (by cases hf), ?_⟩
     gi_wp2_with fail
     refine bodyPost_ret (results_none rfl _ _ _) rfl ?_
     exact ⟨⟨_, rfl⟩, .inl ⟨pre, ⟨hO.out, .inr ⟨x, b, by rw [HI.out]; exact HX.out, by rw [HI.out]; exact HB.out, HZ1.out⟩⟩, HJV.out⟩⟩
    ·have hnx : nzNext c a bs pre (((i : Nat) : Int), x + v) := ⟨x, b, by rw [HI.out]; exact HX.out, by rw [HI.out]; exact HB.out, by rw [HI.out], HZ1.out⟩
     have HNX := hid hnx
     obtain ⟨fn, tmps, assign, body, hy, hR⟩ := HY.out pre (((i : Nat) : Int), x + v) V hnx HJV.out
     dsimp only at hy
     have HYR := hid hR
     clear hnx hR
     gi_wp2_with fail
     refine HYR.out.mono ?_
     rintro e W3 (⟨rfl, hJ3, hk3⟩ | ⟨rfl, hJx3⟩)
     ·have HJ3 := hid hJ3; have HK3 := hid (HKt.out _ _ _ HKV.out hk3)
      clear hJ3 hk3 hy
      gi_wp2_with fail
      go_roundw
      case rel => exact ⟨pre ++ [(((i : Nat) : Int), x + v)], by rw [List.length_append, List.length_singleton, HI.out]; rfl, by rw [List.length_append, List.length_singleton, HI.out]; omega, hO.out.snoc HNX.out, HJ3, HK3⟩
      case measure => simp [intOf] <;> omega
     ·clear hy
      gi_wp2_with fail
      refine bodyPost_ret (results_none rfl _ _ _) rfl ?_
      exact ⟨⟨_, rfl⟩, .inr ⟨_, trivial, hJx3⟩⟩
  ·obtain rfl : i = N := by omega
   gi_wp2_with fail
   refine bodyPost_end (results_none rfl _ _ _) rfl ?_
   exact ⟨⟨_, rfl⟩, .inl ⟨pre, ⟨hO.out, .inl (by rw [HI.out, HN.out])⟩, hJ.out⟩⟩
theorem fd_words (w : World) (v : Value) (l : List ByteArray) (m : Int) (h : Row w v (strs l)) (hsz : ∀ b ∈ l, b.size ≤ 100000000) :
 Calls Tryz.prog 41 #[v, .int .i64 m] w fun e w' => e = .returned (.int .i64 (wdE l m)) ∧ Below w.heap.size w w' := by
 obtain ⟨a, c, rfl, h1, h2, h3⟩ := h.openS
 obtain ⟨n, hn⟩ : ∃ n, l.length = n := ⟨_, rfl⟩
 unfold wdE
 rw [hn] at h1 ⊢
 by_cases hm : (n : Int) = m
 ·rw [if_pos hm]
  have H3 := hid h3; have HN := hid hn; have HSZ := hid hsz
  have q0 : ((n : Int) == m) = true := by rw [beq_iff_eq]; exact hm
  obtain ⟨X, hX⟩ : ∃ X : Int, bsE l = X := ⟨_, rfl⟩
  have HX := hid hX
  rw [hX]
  subst hm
  clear h h3 hn hX hsz q0
  go_enter Tryz.func41, Tryz.ntmps41
  go_wp2_with fail
  go_loopw [14] (fun ii wr => ∃ i : Nat, ii = .int .i64 i ∧ i ≤ n ∧ Hid (∀ (j : Nat) (b : ByteArray), j < i → l[j]? = some b → chkE b = 0) ∧ Hid (Below w.heap.size w wr)) (fun ii wr => n - (intOf ii).toNat)
  case atStart => exact ⟨0, rfl, Nat.zero_le _, fun j b hj => absurd hj (by omega), Below.refl _ _⟩
  case round =>
   obtain ⟨i, rfl, hi, hI, hB⟩ := hrel
   by_cases hlt : i < n
   ·obtain ⟨x, hx⟩ : ∃ x, l[i]? = some x := ⟨_, List.getElem?_eq_getElem (by rw [HN.out]; exact hlt)⟩
    obtain ⟨g, o, rfl, hg, hc⟩ := H3.out i x hx
    have d0 := (hB.out.cell (p := ⟨g, o + i, none⟩) hg).trans hc
    have b1 : (0 : Int) ≤ (i : Int) := by omega
    have b2 : (i : Int) < (n : Int) := by omega
    have wi : IntKind.i64.wrap ((i : Int) + 1) = (i : Int) + 1 := by rw [IntWalk.i64_in _ ⟨by omega, by omega⟩]
    have PN := fun W => hid (b_Check W x (HSZ.out x (List.mem_of_getElem? hx)))
    have hce := chkE_err x
    obtain ⟨y, hy⟩ : ∃ y, bitE x = y := ⟨_, rfl⟩
    rw [hy] at PN hce
    have HXX := hid hx; have HC := hid hce
    have hdrop : l.drop i = x :: l.drop (i + 1) := by
     have hil : i < l.length := by rw [HN.out]; exact hlt
     rw [List.drop_eq_getElem_cons hil]
     have := List.getElem?_eq_getElem hil
     rw [hx] at this
     rw [Option.some.inj this]
    have HD := hid hdrop
    clear hx hy hc hdrop hce
    by_cases hy0 : y = 0
    ·subst hy0
     by_cases hl : 256 < x.size
     ·have q2 : decide ((256 : Int) < (x.size : Int)) = true := by simp; omega
      have HE : Hid (X = 4) := by
       show X = 4
       have e : chkE x = 4 := by rw [HC.out, if_neg (by simp), if_pos hl]
       rw [← HX.out, bsE_at hI.out, HD.out, bsE, e, if_pos (by decide)]
      clear hl
      go_wp2_with fail
      refine (PN _).out.mono ?_; rintro e w1 ⟨rfl, hb1⟩
      have y1 := hid (bnext hB.out hb1); clear hb1
      go_wp2_with fail
      go_ret
      exact ⟨by rw [HE.out]; rfl, y1.out⟩
     ·have q2 : decide ((256 : Int) < (x.size : Int)) = false := by simp; omega
      have HE : Hid (chkE x = 0) := by
       show chkE x = 0
       rw [HC.out, if_neg (by simp), if_neg hl]
      clear hl
      go_wp2_with fail
      refine (PN _).out.mono ?_; rintro e w1 ⟨rfl, hb1⟩
      have y1 := hid (bnext hB.out hb1); clear hb1
      go_wp2_with fail
      go_roundw
      case rel => exact ⟨i + 1, rfl, by omega, fun j b hj hjb => by
       by_cases e : j = i
       ·subst e; rw [HXX.out] at hjb; cases hjb; exact HE.out
       ·exact hI.out j b (by omega) hjb, y1.out⟩
      case measure => simp [intOf] <;> omega
    ·have q3 : (y == 0) = false := by rw [beq_eq_false_iff_ne]; exact hy0
     have HE : Hid (X = y) := by
      show X = y
      have e : chkE x = y := by rw [HC.out, if_pos hy0]
      rw [← HX.out, bsE_at hI.out, HD.out, bsE, e, if_pos hy0]
     clear hy0
     go_wp2_with fail
     refine (PN _).out.mono ?_; rintro e w1 ⟨rfl, hb1⟩
     have y1 := hid (bnext hB.out hb1); clear hb1
     go_wp2_with fail
     go_ret
     exact ⟨by rw [HE.out]; rfl, y1.out⟩
   ·obtain rfl : i = n := by omega
    have HE : Hid (X = 0) := by
     show X = 0
     have hd : l.drop i = [] := List.drop_eq_nil_of_le (by rw [HN.out]; exact Nat.le_refl _)
     rw [← HX.out, bsE_at hI.out, hd]; rfl
    go_wp2_with fail
    go_ret
    exact ⟨by rw [HE.out]; rfl, hB.out⟩
 ·rw [if_neg hm]
  have q0 : ((n : Int) == m) = false := by rw [beq_eq_false_iff_ne]; exact hm
  clear h h3 hn hsz hm
  go_enter Tryz.func41, Tryz.ntmps41
  go_wp2_with fail
  go_ret
  exact ⟨rfl, Below.refl _ _⟩
end Go.Proofs.YtckihjfkafdncaaGreatDoor
