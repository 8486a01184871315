/- Texts that the proof rests on, merged: Fr4, Rt4, Rt5, Sa3, Sq0, Bg, R1e, Rp11, Rp12, Pn6, Fd4, Sq3, Fn0, Rq0, Sh6, Sm, Gd0, Gl0, Tb. -/
import Derived.Test.YtlmnpocifldpmaaGreatDoorKb7
import Derived.Deep.AppendLies
import Derived.WalkLawsBesides
import Derived.Sort.Walk0
import Derived.Deep.DeepCutAuto
import Derived.Shelf.SlSortCmp.WholeK
import Derived.Shelf.SlGeneric
import Derived.Shelf.Small.Bits
import Derived.Ground.SlsfProg
import Derived.Ground.NamesProg
import Derived.Test.YtlmnpocifldpmaaGreatDoorProg
import Derived.Sort.OwnSortedInts
import Derived.Maps.AppendAt
import Derived.RangeFuncBox
set_option linter.unusedVariables false
set_option linter.unusedSimpArgs false
set_option linter.unusedSectionVars false
set_option maxRecDepth 100000
set_option maxHeartbeats 8000000
namespace Go.Proofs.YtlmnpocifldpmaaGreatDoor
open Go.RowKit
theorem q_add_same {p q : Rat} {m : Bool} (h1 : decide (p.num < 0) = m) (h2 : decide (q.num < 0) = m) : qmk m (p.num.natAbs * q.den + q.num.natAbs * p.den) (p.den * q.den) = p + q := by
 rw [q_add, h1, h2, sgn_same]; rfl
theorem q_add_less {p q : Rat} {m1 m2 : Bool} (h1 : decide (p.num < 0) = m1) (h2 : decide (q.num < 0) = m2) (h : m1 ≠ m2) (hl : p.num.natAbs * q.den < q.num.natAbs * p.den) : qmk m2 (q.num.natAbs * p.den - p.num.natAbs * q.den) (p.den * q.den) = p + q := by
 rw [q_add, h1, h2, sgn_less h hl]; rfl
theorem q_add_more {p q : Rat} {m1 m2 : Bool} (h1 : decide (p.num < 0) = m1) (h2 : decide (q.num < 0) = m2) (h : m1 ≠ m2) (hl : q.num.natAbs * p.den ≤ p.num.natAbs * q.den) : qmk m1 (p.num.natAbs * q.den - q.num.natAbs * p.den) (p.den * q.den) = p + q := by
 rw [q_add, h1, h2, sgn_more h hl]; rfl
theorem f_Add (w : World) (v u : Value) (p q : Rat) (hp : IsQ .u64 w v p) (hq : IsQ .u64 w u q)
 (h1 : (limbs p.num.natAbs).length ≤ 100000) (h2 : (limbs p.den).length ≤ 100000) (h3 : (limbs q.num.natAbs).length ≤ 100000) (h4 : (limbs q.den).length ≤ 100000) :
 Calls Tryz.prog 54 #[v, u] w fun e w' => RetQ .u64 (p + q) e w' ∧ Below w.heap.size w w' := by
 obtain ⟨m1, hm1⟩ : ∃ m, decide (p.num < 0) = m := ⟨_, rfl⟩
 obtain ⟨m2, hm2⟩ : ∃ m, decide (q.num < 0) = m := ⟨_, rfl⟩
 have s1 := fun (e : m1 = m2) => q_add_same (m := m1) hm1 (hm2.trans e.symm)
 have s2 := q_add_less hm1 hm2
 have s3 := q_add_more hm1 hm2
 obtain ⟨Q, hQ⟩ : ∃ Q, p + q = Q := ⟨_, rfl⟩
 rw [hQ] at s1 s2 s3 ⊢
 have hD := hid (Nat.mul_pos p.den_pos q.den_pos)
 obtain ⟨N1, D1, rfl, hn1, hd1⟩ := hp.ex
 obtain ⟨N2, D2, rfl, hn2, hd2⟩ := hq.ex
 rw [hm1, hm2]
 clear hp hq hQ hm1 hm2
 generalize p.num.natAbs = n1 at *
 generalize q.num.natAbs = n2 at *
 generalize p.den = d1 at *
 generalize q.den = d2 at *
 have S1 := hid s1; have S2 := hid s2; have S3 := hid s3
 have HN1 := hid hn1; have HD1 := hid hd1; have HN2 := hid hn2; have HD2 := hid hd2
 have lx := len_mul h1 h4
 have ly := len_mul h3 h2
 have ld := len_mul h2 h4
 have LX := hid (Nat.le_trans lx (show 100000 + 100000 ≤ 200000 by omega)); have LY := hid (Nat.le_trans ly (show 100000 + 100000 ≤ 200000 by omega)); have LD := hid (Nat.le_trans ld (show 100000 + 100000 ≤ 1000000 by omega))
 have LXY := hid (Nat.le_trans (len_add lx ly) (show 100000 + 100000 + (100000 + 100000) + 1 ≤ 1000000 by omega))
 have H1 := hid (Nat.le_trans h1 (show 100000 ≤ 1000000 by omega))
 have H2 := hid (Nat.le_trans h2 (show 100000 ≤ 1000000 by omega))
 have H3 := hid (Nat.le_trans h3 (show 100000 ≤ 1000000 by omega))
 have H4 := hid (Nat.le_trans h4 (show 100000 ≤ 1000000 by omega))
 clear h1 h2 h3 h4 lx ly ld s1 s2 s3
 obtain ⟨a1, c1, rfl, _⟩ := hn1.openI
 obtain ⟨a2, c2, rfl, _⟩ := hd1.openI
 obtain ⟨a3, c3, rfl, _⟩ := hn2.openI
 obtain ⟨a4, c4, rfl, _⟩ := hd2.openI
 clear hn1 hd1 hn2 hd2
 go_enter Tryz.func54, Tryz.ntmps54
 go_wp2_with fail
 obtain ⟨W, hW⟩ : ∃ W, ((w.alloc (.cells #[.bool m1, .slice a1 (limbs n1).length c1, .slice a2 (limbs d1).length c2] 94)).alloc (.cells #[.bool m2, .slice a3 (limbs n2).length c3, .slice a4 (limbs d2).length c4] 94)).alloc (.cells #[.bool false, .slice none 0 0, .slice none 0 0] 94) = W := ⟨_, rfl⟩
 have T := hid (Three.mk' hW)
 rw [hW]
 clear hW
 have hS := T.out.cells (Below.refl _ _).drew
 have B0 := hid (T.out.below.drew)
 have C0 := hid ((Below.refl W.heap.size W).drew)
 refine held_plain [0, 1, 2, 3, 5, 6, 7, 8] 4 (twoF w.heap.size m1 m2 (.slice a1 (limbs n1).length c1) (.slice a2 (limbs d1).length c2) (.slice a3 (limbs n2).length c3) (.slice a4 (limbs d2).length c4)) (by kernel_rfl) (by kernel_rfl) (by kernel_rfl) (by kernel_rfl) hS ?_
 iterate 8
  refine ⟨_, rfl, ?_⟩
  apply Exists.intro
  refine ⟨.inl ⟨by rfl, ?_⟩, ?_⟩
  ·(intro W' hW'; obtain ⟨q1, q2, q3, q4, q5, q6⟩ := hW'; go_simp; try (with_reducible rfl))
  (dsimp only [Act.put]; try simp only [List.setIfInBounds_toArray, List.set_cons_zero, List.set_cons_succ])
 clear hS
 refine held_one (i := 4) (by kernel_rfl) (by rfl) (by rfl) ?_
 go_wp2_with fail
 refine (l_Mul _ _ _ n1 d2 (HN1.out.call B0.out) (HD2.out.call B0.out) H1.out H4.out).mono ?_; rintro e w1 ⟨⟨v1, rfl, hv1⟩, hb1⟩
 have B1 := hid (B0.out.trans (hb1.mono B0.out.size)); have C1 := hid (bnext C0.out hb1); have V1 := hid hv1
 clear hb1 hv1
 go_wp2_with fail
 refine ⟨T.out.cells C1.out, ?_⟩
 refine held_one (i := 9) (by kernel_rfl) (by rfl) (by rfl) ?_
 go_wp2_with fail
 refine (l_Mul _ _ _ n2 d1 (HN2.out.call B1.out) (HD1.out.call B1.out) H3.out H2.out).mono ?_; rintro e w2 ⟨⟨v2, rfl, hv2⟩, hb2⟩
 have B2 := hid (B1.out.trans (hb2.mono B1.out.size)); have C2 := hid (bnext C1.out hb2); have V2 := hid hv2; have W1 := hid (V1.out.call hb2)
 clear hb2 hv2
 go_wp2_with fail
 refine ⟨T.out.cells C2.out, ?_⟩
 refine held_more (is := [10, 11]) (g := 0) (by kernel_rfl) rfl (T.out.cells C2.out) (by kernel_rfl) ?_
 iterate 2
  refine ⟨_, rfl, ?_⟩
  apply Exists.intro
  refine ⟨.inl ⟨by rfl, ?_⟩, ?_⟩
  ·(intro W' hW'; clear hW'; go_simp; try (with_reducible rfl))
  (dsimp only [Act.put]; try simp only [List.setIfInBounds_toArray, List.set_cons_zero, List.set_cons_succ])
 refine wpAnyH_done (by kernel_rfl) ?_ _
 simp only [Only]
 obtain ⟨k0, k1, k2, k3, k4, k5⟩ := T.out.cells C2.out
 go_wp2_with fail
 refine (l_Mul _ _ _ d1 d2 (HD1.out.call B2.out) (HD2.out.call B2.out) H2.out H4.out).mono ?_; rintro e w3 ⟨⟨v3, rfl, hv3⟩, hb3⟩
 have B3 := hid (B2.out.trans (hb3.mono B2.out.size)); have C3 := hid (bnext C2.out hb3); have V3 := hid hv3; have X1 := hid (W1.out.call hb3); have X2 := hid (V2.out.call hb3)
 clear hb3 hv3 k0 k1 k2 k3 k4 k5
 go_wp2_with fail
 refine (l_Cmp _ _ _ (n1 * d2) (n2 * d1) X1.out X2.out (Nat.le_trans LX.out (by omega))).mono ?_; rintro e w4 ⟨rfl, hb4⟩
 have B4 := hid (B3.out.trans (hb4.mono B3.out.size)); have C4 := hid (bnext C3.out hb4); have V4 := hid (V3.out.call hb4); have Y1 := hid (X1.out.call hb4); have Y2 := hid (X2.out.call hb4)
 clear hb4
 obtain ⟨k0, k1, k2, k3, k4, k5⟩ := T.out.cells C4.out
 clear B0 B1 B2 B3 C0 C1 C2 C3 V1 V2 V3 W1 X1 X2
 obtain ⟨X, hX⟩ : ∃ X, n1 * d2 = X := ⟨_, rfl⟩
 obtain ⟨Y, hY⟩ : ∃ X, n2 * d1 = X := ⟨_, rfl⟩
 obtain ⟨E, hE⟩ : ∃ X, d1 * d2 = X := ⟨_, rfl⟩
 rw [hX] at S1 S2 S3 LX LXY Y1 ⊢
 rw [hY] at S1 S2 S3 LY LXY Y2 ⊢
 rw [hE] at S1 S2 S3 LD V4 hD
 clear hX hY hE
 by_cases em : m1 = m2
 ·have SA := hid (S1.out em)
  subst em
  have q0 : (m1 == m1) = true := beq_self_eq_true m1
  go_wp2_with fail
  have hS := T.out.cells C4.out.drew
  have B0 := hid B4.out.drew
  have C0 := hid C4.out.drew
  refine held_plain [0, 1, 2, 3, 5] 3 (twoF w.heap.size m1 m1 (.slice a1 (limbs n1).length c1) (.slice a2 (limbs d1).length c2) (.slice a3 (limbs n2).length c3) (.slice a4 (limbs d2).length c4)) (by kernel_rfl) (by kernel_rfl) (by kernel_rfl) (by kernel_rfl) hS ?_
  iterate 5
   refine ⟨_, rfl, ?_⟩
   apply Exists.intro
   refine ⟨.inl ⟨by rfl, ?_⟩, ?_⟩
   ·(intro W' hW'; obtain ⟨q1, q2, q3, q4, q5, q6⟩ := hW'; go_simp; try (with_reducible rfl))
   (dsimp only [Act.put]; try simp only [List.setIfInBounds_toArray, List.set_cons_zero, List.set_cons_succ])
  clear hS
  refine held_one (i := 4) (by kernel_rfl) (by rfl) (by rfl) ?_
  go_wp2_with fail
  refine (l_Add _ _ _ X Y (Y1.out.call (Below.refl _ _).drew) (Y2.out.call (Below.refl _ _).drew) (Nat.le_trans LX.out (by omega)) (Nat.le_trans LY.out (by omega))).mono ?_; rintro e w5 ⟨⟨v5, rfl, hv5⟩, hb5⟩
  have B5 := hid (B0.out.trans (hb5.mono B0.out.size)); have C5 := hid (C0.out.trans (hb5.mono C0.out.size)); have V5 := hid hv5; have E5 := hid (V4.out.call (show Below w4.heap.size w4 w5 from (Below.refl _ _).drew.trans hb5))
  clear hb5 hv5
  go_wp2_with fail
  refine ⟨T.out.cells C5.out, ?_⟩
  refine held_one (i := 6) (by kernel_rfl) (by rfl) (by rfl) ?_
  go_wp2_with fail
  refine (f_Make _ _ _ _ (X + Y) E V5.out E5.out hD.out (LXY.out) LD.out).mono ?_; rintro e w6 ⟨⟨v3, rfl, hv3⟩, hb6⟩
  rw [SA.out] at hv3
  have B6 := hid (B5.out.trans (hb6.mono B5.out.size)); have C6 := hid (C5.out.trans (hb6.mono C5.out.size))
  clear hb6
  obtain ⟨N3, D3, rfl, hN3, hD3⟩ := hv3.ex
  obtain ⟨a5, c5, rfl, _⟩ := hN3.openI
  obtain ⟨a6, c6, rfl, _⟩ := hD3.openI
  obtain ⟨k5, hk5⟩ : ∃ k, (limbs Q.num.natAbs).length = k := ⟨_, rfl⟩
  obtain ⟨k6, hk6⟩ : ∃ k, (limbs Q.den).length = k := ⟨_, rfl⟩
  obtain ⟨mq, hmq⟩ : ∃ m, decide (Q.num < 0) = m := ⟨_, rfl⟩
  rw [hk5] at hN3 ⊢
  rw [hk6] at hD3 ⊢
  rw [hmq]
  have HN3 := hid hN3; have HD3 := hid hD3; have HMQ := hid hmq
  have Z := hid (T.out.b2.call C6.out)
  have t0 := Z.out.cell 0
  have t1 := Z.out.cell 1
  have t2 := Z.out.cell 2
  have t3 := Z.out.free 0
  have t4 := Z.out.free 1
  have t5 := Z.out.free 2
  simp at t0 t1 t2
  clear hv3 hN3 hD3 hk5 hk6 hmq
  go_wp2_with fail
  refine ⟨T.out.cells C6.out, ?_⟩
  refine held_one (i := 7) (by kernel_rfl) (by rfl) (by rfl) ?_
  go_wp2_with fail
  refine ⟨T.out.stored C6.out _ _ _, ?_⟩
  refine wpAnyH_done (by kernel_rfl) ?_ _
  simp only [Only]
  obtain ⟨s1, s2⟩ := set3 Z.out mq a5 a6 k5 c5 k6 c6
  have f0 := s2.cell 0
  have f1 := s2.cell 1
  have f2 := s2.cell 2
  simp at f0 f1 f2
  clear t0 t1 t2 t3 t4 t5
  go_wp2_with fail
  refine bodyPost_ret (v := .agg #[.bool mq, .slice a5 k5 c5, .slice a6 k6 c6]) (by simp [results, Tryz.results54, go_sem, f0, f1, f2]) rfl ⟨⟨_, rfl, ⟨.slice a5 k5 c5, .slice a6 k6 c6, by rw [HMQ.out], s1 _ _ _ HN3.out, s1 _ _ _ HD3.out⟩⟩, ?_⟩
  exact ((B6.out.setCell (by simp; omega) _).setCell (by simp; omega) _).setCell (by simp; omega) _
 ·have q0 : (m1 == m2) = false := by simpa using em
  have HE := hid em
  clear em
  by_cases hc : X < Y
  ·have HC := hid hc
   rw [ordN_lt hc]
   clear hc
   go_wp2_with fail
   have hS := T.out.cells C4.out.drew
   have B0 := hid B4.out.drew
   have C0 := hid C4.out.drew
   refine held_plain [0, 1, 2, 3, 5] 3 (twoF w.heap.size m1 m2 (.slice a1 (limbs n1).length c1) (.slice a2 (limbs d1).length c2) (.slice a3 (limbs n2).length c3) (.slice a4 (limbs d2).length c4)) (by kernel_rfl) (by kernel_rfl) (by kernel_rfl) (by kernel_rfl) hS ?_
   iterate 5
    refine ⟨_, rfl, ?_⟩
    apply Exists.intro
    refine ⟨.inl ⟨by rfl, ?_⟩, ?_⟩
    ·(intro W' hW'; obtain ⟨q1, q2, q3, q4, q5, q6⟩ := hW'; go_simp; try (with_reducible rfl))
    (dsimp only [Act.put]; try simp only [List.setIfInBounds_toArray, List.set_cons_zero, List.set_cons_succ])
   clear hS
   refine held_one (i := 4) (by kernel_rfl) (by rfl) (by rfl) ?_
   go_wp2_with fail
   refine (l_Sub _ _ _ Y X (Y2.out.call (Below.refl _ _).drew) (Y1.out.call (Below.refl _ _).drew) (Nat.le_of_lt HC.out) (Nat.le_trans LY.out (by omega))).mono ?_; rintro e w5 ⟨⟨v5, rfl, hv5⟩, hb5⟩
   have B5 := hid (B0.out.trans (hb5.mono B0.out.size)); have C5 := hid (C0.out.trans (hb5.mono C0.out.size)); have V5 := hid hv5; have E5 := hid (V4.out.call (show Below w4.heap.size w4 w5 from (Below.refl _ _).drew.trans hb5))
   clear hb5 hv5
   go_wp2_with fail
   refine ⟨T.out.cells C5.out, ?_⟩
   refine held_one (i := 6) (by kernel_rfl) (by rfl) (by rfl) ?_
   go_wp2_with fail
   refine (f_Make _ _ _ _ (Y - X) E V5.out E5.out hD.out (Nat.le_trans (limbs_length_mono (Nat.sub_le Y X)) (Nat.le_trans LY.out (by omega))) LD.out).mono ?_; rintro e w6 ⟨⟨v3, rfl, hv3⟩, hb6⟩
   rw [S2.out HE.out HC.out] at hv3
   have B6 := hid (B5.out.trans (hb6.mono B5.out.size)); have C6 := hid (C5.out.trans (hb6.mono C5.out.size))
   clear hb6
   obtain ⟨N3, D3, rfl, hN3, hD3⟩ := hv3.ex
   obtain ⟨a5, c5, rfl, _⟩ := hN3.openI
   obtain ⟨a6, c6, rfl, _⟩ := hD3.openI
   obtain ⟨k5, hk5⟩ : ∃ k, (limbs Q.num.natAbs).length = k := ⟨_, rfl⟩
   obtain ⟨k6, hk6⟩ : ∃ k, (limbs Q.den).length = k := ⟨_, rfl⟩
   obtain ⟨mq, hmq⟩ : ∃ m, decide (Q.num < 0) = m := ⟨_, rfl⟩
   rw [hk5] at hN3 ⊢
   rw [hk6] at hD3 ⊢
   rw [hmq]
   have HN3 := hid hN3; have HD3 := hid hD3; have HMQ := hid hmq
   have Z := hid (T.out.b2.call C6.out)
   have t0 := Z.out.cell 0
   have t1 := Z.out.cell 1
   have t2 := Z.out.cell 2
   have t3 := Z.out.free 0
   have t4 := Z.out.free 1
   have t5 := Z.out.free 2
   simp at t0 t1 t2
   clear hv3 hN3 hD3 hk5 hk6 hmq
   go_wp2_with fail
   refine ⟨T.out.cells C6.out, ?_⟩
   refine held_one (i := 7) (by kernel_rfl) (by rfl) (by rfl) ?_
   go_wp2_with fail
   refine ⟨T.out.stored C6.out _ _ _, ?_⟩
   refine wpAnyH_done (by kernel_rfl) ?_ _
   simp only [Only]
   obtain ⟨s1, s2⟩ := set3 Z.out mq a5 a6 k5 c5 k6 c6
   have f0 := s2.cell 0
   have f1 := s2.cell 1
   have f2 := s2.cell 2
   simp at f0 f1 f2
   clear t0 t1 t2 t3 t4 t5
   go_wp2_with fail
   refine bodyPost_ret (v := .agg #[.bool mq, .slice a5 k5 c5, .slice a6 k6 c6]) (by simp [results, Tryz.results54, go_sem, f0, f1, f2]) rfl ⟨⟨_, rfl, ⟨.slice a5 k5 c5, .slice a6 k6 c6, by rw [HMQ.out], s1 _ _ _ HN3.out, s1 _ _ _ HD3.out⟩⟩, ?_⟩
   exact ((B6.out.setCell (by simp; omega) _).setCell (by simp; omega) _).setCell (by simp; omega) _
  ·have HC := hid (show Y ≤ X by omega)
   have q1 : decide (ordN X Y < 0) = false := by
    rcases Nat.lt_or_ge Y X with h | h
    ·rw [ordN_gt h]; rfl
    ·rw [show X = Y by omega, ordN_eq]; rfl
   clear hc
   go_wp2_with fail
   have hS := T.out.cells C4.out.drew
   have B0 := hid B4.out.drew
   have C0 := hid C4.out.drew
   refine held_plain [0, 1, 2, 3, 5] 3 (twoF w.heap.size m1 m2 (.slice a1 (limbs n1).length c1) (.slice a2 (limbs d1).length c2) (.slice a3 (limbs n2).length c3) (.slice a4 (limbs d2).length c4)) (by kernel_rfl) (by kernel_rfl) (by kernel_rfl) (by kernel_rfl) hS ?_
   iterate 5
    refine ⟨_, rfl, ?_⟩
    apply Exists.intro
    refine ⟨.inl ⟨by rfl, ?_⟩, ?_⟩
    ·(intro W' hW'; obtain ⟨q1, q2, q3, q4, q5, q6⟩ := hW'; go_simp; try (with_reducible rfl))
    (dsimp only [Act.put]; try simp only [List.setIfInBounds_toArray, List.set_cons_zero, List.set_cons_succ])
   clear hS
   refine held_one (i := 4) (by kernel_rfl) (by rfl) (by rfl) ?_
   go_wp2_with fail
   refine (l_Sub _ _ _ X Y (Y1.out.call (Below.refl _ _).drew) (Y2.out.call (Below.refl _ _).drew) HC.out (Nat.le_trans LX.out (by omega))).mono ?_; rintro e w5 ⟨⟨v5, rfl, hv5⟩, hb5⟩
   have B5 := hid (B0.out.trans (hb5.mono B0.out.size)); have C5 := hid (C0.out.trans (hb5.mono C0.out.size)); have V5 := hid hv5; have E5 := hid (V4.out.call (show Below w4.heap.size w4 w5 from (Below.refl _ _).drew.trans hb5))
   clear hb5 hv5
   go_wp2_with fail
   refine ⟨T.out.cells C5.out, ?_⟩
   refine held_one (i := 6) (by kernel_rfl) (by rfl) (by rfl) ?_
   go_wp2_with fail
   refine (f_Make _ _ _ _ (X - Y) E V5.out E5.out hD.out (Nat.le_trans (limbs_length_mono (Nat.sub_le X Y)) (Nat.le_trans LX.out (by omega))) LD.out).mono ?_; rintro e w6 ⟨⟨v3, rfl, hv3⟩, hb6⟩
   rw [S3.out HE.out HC.out] at hv3
   have B6 := hid (B5.out.trans (hb6.mono B5.out.size)); have C6 := hid (C5.out.trans (hb6.mono C5.out.size))
   clear hb6
   obtain ⟨N3, D3, rfl, hN3, hD3⟩ := hv3.ex
   obtain ⟨a5, c5, rfl, _⟩ := hN3.openI
   obtain ⟨a6, c6, rfl, _⟩ := hD3.openI
   obtain ⟨k5, hk5⟩ : ∃ k, (limbs Q.num.natAbs).length = k := ⟨_, rfl⟩
   obtain ⟨k6, hk6⟩ : ∃ k, (limbs Q.den).length = k := ⟨_, rfl⟩
   obtain ⟨mq, hmq⟩ : ∃ m, decide (Q.num < 0) = m := ⟨_, rfl⟩
   rw [hk5] at hN3 ⊢
   rw [hk6] at hD3 ⊢
   rw [hmq]
   have HN3 := hid hN3; have HD3 := hid hD3; have HMQ := hid hmq
   have Z := hid (T.out.b2.call C6.out)
   have t0 := Z.out.cell 0
   have t1 := Z.out.cell 1
   have t2 := Z.out.cell 2
   have t3 := Z.out.free 0
   have t4 := Z.out.free 1
   have t5 := Z.out.free 2
   simp at t0 t1 t2
   clear hv3 hN3 hD3 hk5 hk6 hmq
   go_wp2_with fail
   refine ⟨T.out.cells C6.out, ?_⟩
   refine held_one (i := 7) (by kernel_rfl) (by rfl) (by rfl) ?_
   go_wp2_with fail
   refine ⟨T.out.stored C6.out _ _ _, ?_⟩
   refine wpAnyH_done (by kernel_rfl) ?_ _
   simp only [Only]
   obtain ⟨s1, s2⟩ := set3 Z.out mq a5 a6 k5 c5 k6 c6
   have f0 := s2.cell 0
   have f1 := s2.cell 1
   have f2 := s2.cell 2
   simp at f0 f1 f2
   clear t0 t1 t2 t3 t4 t5
   go_wp2_with fail
   refine bodyPost_ret (v := .agg #[.bool mq, .slice a5 k5 c5, .slice a6 k6 c6]) (by simp [results, Tryz.results54, go_sem, f0, f1, f2]) rfl ⟨⟨_, rfl, ⟨.slice a5 k5 c5, .slice a6 k6 c6, by rw [HMQ.out], s1 _ _ _ HN3.out, s1 _ _ _ HD3.out⟩⟩, ?_⟩
   exact ((B6.out.setCell (by simp; omega) _).setCell (by simp; omega) _).setCell (by simp; omega) _
theorem f_Sub (w : World) (v u : Value) (p q : Rat) (hp : IsQ .u64 w v p) (hq : IsQ .u64 w u q)
 (h1 : (limbs p.num.natAbs).length ≤ 100000) (h2 : (limbs p.den).length ≤ 100000) (h3 : (limbs q.num.natAbs).length ≤ 100000) (h4 : (limbs q.den).length ≤ 100000) :
 Calls Tryz.prog 161 #[v, u] w fun e w' => RetQ .u64 (p - q) e w' ∧ Below w.heap.size w w' := by
 have e1 : p + -q = p - q := (Rat.sub_eq_add_neg p q).symm
 have F1 := fun V v h => hid (f_Neg V v q h)
 have F2 := fun V v u hv hu => hid (f_Add V v u p (-q) hv hu h1 h2 (by rw [Rat.neg_num, Int.natAbs_neg]; exact h3) (by rw [Rat.neg_den]; exact h4))
 rw [e1] at F2
 obtain ⟨Q, hQ⟩ : ∃ Q, p - q = Q := ⟨_, rfl⟩
 rw [hQ] at F2 ⊢
 have HP := hid hp; have HQ' := hid hq
 obtain ⟨N1, D1, rfl, hn1, hd1⟩ := hp.ex
 obtain ⟨N2, D2, rfl, hn2, hd2⟩ := hq.ex
 obtain ⟨a1, c1, rfl, _⟩ := hn1.openI
 obtain ⟨a2, c2, rfl, _⟩ := hd1.openI
 obtain ⟨a3, c3, rfl, _⟩ := hn2.openI
 obtain ⟨a4, c4, rfl, _⟩ := hd2.openI
 clear hp hq hQ e1 hn1 hd1 hn2 hd2 h1 h2 h3 h4
 obtain ⟨m1, hm1⟩ : ∃ m, decide (p.num < 0) = m := ⟨_, rfl⟩
 obtain ⟨m2, hm2⟩ : ∃ m, decide (q.num < 0) = m := ⟨_, rfl⟩
 obtain ⟨l1, hl1⟩ : ∃ m, (limbs p.num.natAbs).length = m := ⟨_, rfl⟩
 obtain ⟨l2, hl2⟩ : ∃ m, (limbs p.den).length = m := ⟨_, rfl⟩
 obtain ⟨l3, hl3⟩ : ∃ m, (limbs q.num.natAbs).length = m := ⟨_, rfl⟩
 obtain ⟨l4, hl4⟩ : ∃ m, (limbs q.den).length = m := ⟨_, rfl⟩
 rw [hm1, hl1, hl2] at HP
 rw [hm2, hl3, hl4] at HQ'
 rw [hm1, hm2, hl1, hl2, hl3, hl4]
 clear hm1 hm2 hl1 hl2 hl3 hl4
 go_enter Tryz.func161, Tryz.ntmps161
 go_wp2_with fail
 obtain ⟨W, hW⟩ : ∃ W, ((w.alloc (.cells #[.bool m1, .slice a1 l1 c1, .slice a2 l2 c2] 94)).alloc (.cells #[.bool m2, .slice a3 l3 c3, .slice a4 l4 c4] 94)).alloc (.cells #[.bool false, .slice none 0 0, .slice none 0 0] 94) = W := ⟨_, rfl⟩
 have T := hid (Three.mk' hW)
 rw [hW]
 clear hW
 have hS := T.out.cells (Below.refl _ _).drew
 have B0 := hid (T.out.below.drew)
 have C0 := hid ((Below.refl W.heap.size W).drew)
 refine held_plain [0, 1] 3 (twoF w.heap.size m1 m2 (.slice a1 l1 c1) (.slice a2 l2 c2) (.slice a3 l3 c3) (.slice a4 l4 c4)) (by kernel_rfl) (by kernel_rfl) (by kernel_rfl) (by kernel_rfl) hS ?_
 iterate 2
  refine ⟨_, rfl, ?_⟩
  apply Exists.intro
  refine ⟨.inl ⟨by rfl, ?_⟩, ?_⟩
  ·(intro W' hW'; obtain ⟨q1, q2, q3, q4, q5, q6⟩ := hW'; go_simp; try (with_reducible rfl))
  (dsimp only [Act.put]; try simp only [List.setIfInBounds_toArray, List.set_cons_zero, List.set_cons_succ])
 clear hS
 refine held_one (i := 2) (by kernel_rfl) (by rfl) (by rfl) ?_
 go_wp2_with fail
 refine (F1 _ _ (HQ'.out.call B0.out)).out.mono ?_; rintro e w1 ⟨⟨v1, rfl, hv1⟩, hb1⟩
 have B1 := hid (B0.out.trans (hb1.mono B0.out.size)); have C1 := hid (bnext C0.out hb1); have V1 := hid hv1
 clear hb1 hv1
 go_wp2_with fail
 refine ⟨T.out.cells C1.out, ?_⟩
 refine held_one (i := 3) (by kernel_rfl) (by rfl) (by rfl) ?_
 go_wp2_with fail
 refine (F2 _ _ _ (HP.out.call B1.out) V1.out).out.mono ?_; rintro e w3 ⟨⟨v3, rfl, hv3⟩, hb3⟩
 have B3 := hid (B1.out.trans (hb3.mono B1.out.size)); have C3 := hid (bnext C1.out hb3)
 clear hb3
 obtain ⟨N3, D3, rfl, hN3, hD3⟩ := hv3.ex
 obtain ⟨a5, c5, rfl, _⟩ := hN3.openI
 obtain ⟨a6, c6, rfl, _⟩ := hD3.openI
 obtain ⟨k5, hk5⟩ : ∃ k, (limbs Q.num.natAbs).length = k := ⟨_, rfl⟩
 obtain ⟨k6, hk6⟩ : ∃ k, (limbs Q.den).length = k := ⟨_, rfl⟩
 obtain ⟨mq, hmq⟩ : ∃ m, decide (Q.num < 0) = m := ⟨_, rfl⟩
 rw [hk5] at hN3 ⊢
 rw [hk6] at hD3 ⊢
 rw [hmq]
 have HN3 := hid hN3; have HD3 := hid hD3; have HMQ := hid hmq
 have Z := hid (T.out.b2.call C3.out)
 have t0 := Z.out.cell 0
 have t1 := Z.out.cell 1
 have t2 := Z.out.cell 2
 have t3 := Z.out.free 0
 have t4 := Z.out.free 1
 have t5 := Z.out.free 2
 simp at t0 t1 t2
 clear hv3 hN3 hD3 hk5 hk6 hmq
 go_wp2_with fail
 refine ⟨T.out.cells C3.out, ?_⟩
 refine held_one (i := 4) (by kernel_rfl) (by rfl) (by rfl) ?_
 go_wp2_with fail
 refine ⟨T.out.stored C3.out _ _ _, ?_⟩
 refine wpAnyH_done (by kernel_rfl) ?_ _
 simp only [Only]
 obtain ⟨s1, s2⟩ := set3 Z.out mq a5 a6 k5 c5 k6 c6
 have f0 := s2.cell 0
 have f1 := s2.cell 1
 have f2 := s2.cell 2
 simp at f0 f1 f2
 clear t0 t1 t2 t3 t4 t5
 go_wp2_with fail
 refine bodyPost_ret (v := .agg #[.bool mq, .slice a5 k5 c5, .slice a6 k6 c6]) (by simp [results, Tryz.results161, go_sem, f0, f1, f2]) rfl ⟨⟨_, rfl, ⟨.slice a5 k5 c5, .slice a6 k6 c6, by rw [HMQ.out], s1 _ _ _ HN3.out, s1 _ _ _ HD3.out⟩⟩, ?_⟩
 exact ((B3.out.setCell (by simp; omega) _).setCell (by simp; omega) _).setCell (by simp; omega) _
theorem f_Div (w : World) (v u : Value) (p q : Rat) (hp : IsQ .u64 w v p) (hq : IsQ .u64 w u q) (h0 : q ≠ 0)
 (h1 : (limbs p.num.natAbs).length ≤ 100000) (h2 : (limbs p.den).length ≤ 100000) (h3 : (limbs q.num.natAbs).length ≤ 100000) (h4 : (limbs q.den).length ≤ 100000) :
 Calls Tryz.prog 55 #[v, u] w fun e w' => RetQ .u64 (p / q) e w' ∧ Below w.heap.size w w' := by
 have e1 : p * q⁻¹ = p / q := (Rat.div_def p q).symm
 have F1 := fun V v h => hid (f_Inv V v q h h0)
 have F2 := fun V v u hv hu => hid (f_Mul V v u p q⁻¹ hv hu h1 h2 (by rw [(inv_num h0).2.1]; exact h4) (by rw [(inv_num h0).2.2]; exact h3))
 rw [e1] at F2
 obtain ⟨Q, hQ⟩ : ∃ Q, p / q = Q := ⟨_, rfl⟩
 rw [hQ] at F2 ⊢
 have HP := hid hp; have HQ' := hid hq
 obtain ⟨N1, D1, rfl, hn1, hd1⟩ := hp.ex
 obtain ⟨N2, D2, rfl, hn2, hd2⟩ := hq.ex
 obtain ⟨a1, c1, rfl, _⟩ := hn1.openI
 obtain ⟨a2, c2, rfl, _⟩ := hd1.openI
 obtain ⟨a3, c3, rfl, _⟩ := hn2.openI
 obtain ⟨a4, c4, rfl, _⟩ := hd2.openI
 clear hp hq hQ e1 hn1 hd1 hn2 hd2 h0 h1 h2 h3 h4
 obtain ⟨m1, hm1⟩ : ∃ m, decide (p.num < 0) = m := ⟨_, rfl⟩
 obtain ⟨m2, hm2⟩ : ∃ m, decide (q.num < 0) = m := ⟨_, rfl⟩
 obtain ⟨l1, hl1⟩ : ∃ m, (limbs p.num.natAbs).length = m := ⟨_, rfl⟩
 obtain ⟨l2, hl2⟩ : ∃ m, (limbs p.den).length = m := ⟨_, rfl⟩
 obtain ⟨l3, hl3⟩ : ∃ m, (limbs q.num.natAbs).length = m := ⟨_, rfl⟩
 obtain ⟨l4, hl4⟩ : ∃ m, (limbs q.den).length = m := ⟨_, rfl⟩
 rw [hm1, hl1, hl2] at HP
 rw [hm2, hl3, hl4] at HQ'
 rw [hm1, hm2, hl1, hl2, hl3, hl4]
 clear hm1 hm2 hl1 hl2 hl3 hl4
 go_enter Tryz.func55, Tryz.ntmps55
 go_wp2_with fail
 obtain ⟨W, hW⟩ : ∃ W, ((w.alloc (.cells #[.bool m1, .slice a1 l1 c1, .slice a2 l2 c2] 94)).alloc (.cells #[.bool m2, .slice a3 l3 c3, .slice a4 l4 c4] 94)).alloc (.cells #[.bool false, .slice none 0 0, .slice none 0 0] 94) = W := ⟨_, rfl⟩
 have T := hid (Three.mk' hW)
 rw [hW]
 clear hW
 have hS := T.out.cells (Below.refl _ _).drew
 have B0 := hid (T.out.below.drew)
 have C0 := hid ((Below.refl W.heap.size W).drew)
 refine held_plain [0, 1] 3 (twoF w.heap.size m1 m2 (.slice a1 l1 c1) (.slice a2 l2 c2) (.slice a3 l3 c3) (.slice a4 l4 c4)) (by kernel_rfl) (by kernel_rfl) (by kernel_rfl) (by kernel_rfl) hS ?_
 iterate 2
  refine ⟨_, rfl, ?_⟩
  apply Exists.intro
  refine ⟨.inl ⟨by rfl, ?_⟩, ?_⟩
  ·(intro W' hW'; obtain ⟨q1, q2, q3, q4, q5, q6⟩ := hW'; go_simp; try (with_reducible rfl))
  (dsimp only [Act.put]; try simp only [List.setIfInBounds_toArray, List.set_cons_zero, List.set_cons_succ])
 clear hS
 refine held_one (i := 2) (by kernel_rfl) (by rfl) (by rfl) ?_
 go_wp2_with fail
 refine (F1 _ _ (HQ'.out.call B0.out)).out.mono ?_; rintro e w1 ⟨⟨v1, rfl, hv1⟩, hb1⟩
 have B1 := hid (B0.out.trans (hb1.mono B0.out.size)); have C1 := hid (bnext C0.out hb1); have V1 := hid hv1
 clear hb1 hv1
 go_wp2_with fail
 refine ⟨T.out.cells C1.out, ?_⟩
 refine held_one (i := 3) (by kernel_rfl) (by rfl) (by rfl) ?_
 go_wp2_with fail
 refine (F2 _ _ _ (HP.out.call B1.out) V1.out).out.mono ?_; rintro e w3 ⟨⟨v3, rfl, hv3⟩, hb3⟩
 have B3 := hid (B1.out.trans (hb3.mono B1.out.size)); have C3 := hid (bnext C1.out hb3)
 clear hb3
 obtain ⟨N3, D3, rfl, hN3, hD3⟩ := hv3.ex
 obtain ⟨a5, c5, rfl, _⟩ := hN3.openI
 obtain ⟨a6, c6, rfl, _⟩ := hD3.openI
 obtain ⟨k5, hk5⟩ : ∃ k, (limbs Q.num.natAbs).length = k := ⟨_, rfl⟩
 obtain ⟨k6, hk6⟩ : ∃ k, (limbs Q.den).length = k := ⟨_, rfl⟩
 obtain ⟨mq, hmq⟩ : ∃ m, decide (Q.num < 0) = m := ⟨_, rfl⟩
 rw [hk5] at hN3 ⊢
 rw [hk6] at hD3 ⊢
 rw [hmq]
 have HN3 := hid hN3; have HD3 := hid hD3; have HMQ := hid hmq
 have Z := hid (T.out.b2.call C3.out)
 have t0 := Z.out.cell 0
 have t1 := Z.out.cell 1
 have t2 := Z.out.cell 2
 have t3 := Z.out.free 0
 have t4 := Z.out.free 1
 have t5 := Z.out.free 2
 simp at t0 t1 t2
 clear hv3 hN3 hD3 hk5 hk6 hmq
 go_wp2_with fail
 refine ⟨T.out.cells C3.out, ?_⟩
 refine held_one (i := 4) (by kernel_rfl) (by rfl) (by rfl) ?_
 go_wp2_with fail
 refine ⟨T.out.stored C3.out _ _ _, ?_⟩
 refine wpAnyH_done (by kernel_rfl) ?_ _
 simp only [Only]
 obtain ⟨s1, s2⟩ := set3 Z.out mq a5 a6 k5 c5 k6 c6
 have f0 := s2.cell 0
 have f1 := s2.cell 1
 have f2 := s2.cell 2
 simp at f0 f1 f2
 clear t0 t1 t2 t3 t4 t5
 go_wp2_with fail
 refine bodyPost_ret (v := .agg #[.bool mq, .slice a5 k5 c5, .slice a6 k6 c6]) (by simp [results, Tryz.results55, go_sem, f0, f1, f2]) rfl ⟨⟨_, rfl, ⟨.slice a5 k5 c5, .slice a6 k6 c6, by rw [HMQ.out], s1 _ _ _ HN3.out, s1 _ _ _ HD3.out⟩⟩, ?_⟩
 exact ((B3.out.setCell (by simp; omega) _).setCell (by simp; omega) _).setCell (by simp; omega) _
open Go.Shelf
open Go.Lib (decDigits nDigits)
theorem q_both (w : World) (s t : ByteArray) (F : Nat) (R : ByteArray) (x : Int) (hs : s.size ≤ 1000000) (ht : t.size ≤ 1000000) (hL : Lay w)
 (hen : ∀ args w, (callFunc F args).run Tryz.prog w = .ok (.enter F args) w)
 (hF : ∀ W v u, qE s = 0 → qE t = 0 → IsQ .u64 W v (vQ s) → IsQ .u64 W u (vQ t) → Lay W → Calls Tryz.prog F #[v, u] W fun e w' => e = .returned (.tuple #[.string R, .int .i64 x]) ∧ Below W.heap.size W w') :
 Calls Tryz.prog 137 #[.string s, .string t, .func (.func F) #[] #[]] w fun e w' => e = .returned (.tuple #[.string (tB R s t), .int .i64 (tE x s t)]) ∧ Below w.heap.size w w' := by
 have HF := hid hF
 have HL := hid hL
 have HEN := hid hen
 have HT := hid ht
 have b1 := hid ((Below.refl w.heap.size w).alloc (Nat.le_refl _) (.cells #[.string t] 22))
 obtain ⟨w1, hw1⟩ : ∃ w1, w.alloc (.cells #[.string t] 22) = w1 := ⟨_, rfl⟩
 obtain ⟨g1, hg1⟩ : ∃ g, w.heap.size = g := ⟨_, rfl⟩
 have X1 := hid (Blk.new w #[.string t] 22)
 rw [hw1] at b1
 rw [hw1, hg1] at X1
 have b2 := hid ((Below.refl w1.heap.size w1).alloc (Nat.le_refl _) (.cells #[.func (.func F) #[] #[]] 162))
 obtain ⟨w2, hw2⟩ : ∃ w2, w1.alloc (.cells #[.func (.func F) #[] #[]] 162) = w2 := ⟨_, rfl⟩
 have X2 := hid (Blk.new w1 #[.func (.func F) #[] #[]] 162)
 have X12 := hid (X1.out.call b2.out)
 have y2 := hid (bnext b1.out b2.out)
 have hg2 : w1.heap.size = g1 + 1 := by rw [← hw1, ← hg1]; simp
 rw [hw2] at b2 X12 y2
 rw [hw2, hg2] at X2
 have L2 := hid (HL.out.call y2.out)
 have W2 := hid (q_with w2 s 202 #[.pointer (some ⟨g1, 0, none⟩), .pointer (some ⟨g1 + 1, 0, none⟩)] (wB R t) (wE x t) hs L2.out (enters_of Tryz.func202 (by kernel_rfl) rfl)
  (fun W v hq hb hv hLW => by
   have hX1 := (X12.out.call hb).cell 0
   have hX2 := (X2.out.call hb).cell 0
   exact q_both1 W v t (vQ s) F g1 (g1 + 1) R x HT.out hv hLW HEN.out hX1 hX2 (fun W v u h0 h1 h2 h3 => HF.out W v u hq h0 h1 h2 h3)))
 have HW1 := hid hw1; have HW2 := hid hw2; have HG1 := hid hg1
 clear hF hL hen hs ht hw1 hw2 hg1 hg2 b1
 go_enter Tryz.func137, Tryz.ntmps137
 go_wp2_with fail
 have hw1 := HW1.out; have hw2 := HW2.out; have hg1 := HG1.out
 rw [hw1, hg1, hw2]
 refine W2.out.mono ?_; rintro e w3 ⟨rfl, hb3⟩
 have y3 := hid (bnext y2.out hb3)
 clear hb3 hw1 hw2 hg1
 go_wp2_with fail
 go_ret2
 exact ⟨rfl, by have := y3.out; exact this⟩
structure Sml (K : Nat) (q : Rat) : Prop where
 n : (limbs q.num.natAbs).length ≤ K
 d : (limbs q.den).length ≤ K
theorem sml_vQ {s : ByteArray} (h : qE s = 0) : Sml 1000 (vQ s) := by
 obtain ⟨-, e2, e3⟩ := vQ_ok h
 obtain ⟨-, -, -, l1, l2, -⟩ := valid h
 exact ⟨by rw [e2]; exact Nat.le_trans (limbs_of_digits l1) (by omega), by rw [e3]; exact Nat.le_trans (limbs_of_digits l2) (by omega)⟩
theorem Sml.up {K L : Nat} {q : Rat} (h : Sml K q) (hl : K ≤ L) : Sml L q := ⟨Nat.le_trans h.n hl, Nat.le_trans h.d hl⟩
theorem sml_neg {K : Nat} {q : Rat} (h : Sml K q) : Sml K (-q) := ⟨by rw [Rat.neg_num, Int.natAbs_neg]; exact h.n, by rw [Rat.neg_den]; exact h.d⟩
theorem sml_mk {K : Nat} {z : Int} {d : Nat} (hd : 0 < d) (h1 : (limbs z.natAbs).length ≤ K) (h2 : (limbs d).length ≤ K) : Sml K (mkRat z d) := by
 refine ⟨?_, ?_⟩
 ·rw [Rat.num_mkRat, if_neg (by omega)]
  refine Nat.le_trans (limbs_length_mono ?_) h1
  exact Int.natAbs_ediv_le_natAbs _ _
 ·rw [Rat.den_mkRat, if_neg (by omega)]
  exact Nat.le_trans (limbs_length_mono (Nat.div_le_self _ _)) h2
theorem sml_mulK {K L : Nat} {p q : Rat} (hp : Sml K p) (hq : Sml L q) : Sml (K + L) (p * q) := by
 rw [← qmk_mul]
 unfold qmk
 exact sml_mk (Nat.mul_pos p.den_pos q.den_pos) (by rw [sgn_natAbs]; exact limbs_mul hp.n hq.n) (limbs_mul hp.d hq.d)
theorem sml_addK {K L : Nat} {p q : Rat} (hp : Sml K p) (hq : Sml L q) : Sml (K + L + (K + L) + 1) (p + q) := by
 rw [q_add]
 refine sml_mk (Nat.mul_pos p.den_pos q.den_pos) ?_ (Nat.le_trans (limbs_mul hp.d hq.d) (by omega))
 refine Nat.le_trans (limbs_length_mono (sgn_abs_le _ _ _ _)) ?_
 exact Nat.le_trans (len_add (limbs_mul hp.n hq.d) (limbs_mul hq.n hp.d)) (by omega)
theorem sml_mul {p q : Rat} (hp : Sml 1000 p) (hq : Sml 1000 q) : Sml 10000 (p * q) := (sml_mulK hp hq).up (by omega)
theorem sml_add {p q : Rat} (hp : Sml 1000 p) (hq : Sml 1000 q) : Sml 10000 (p + q) := (sml_addK hp hq).up (by omega)
theorem sml_sub {p q : Rat} (hp : Sml 1000 p) (hq : Sml 1000 q) : Sml 10000 (p - q) := by rw [Rat.sub_eq_add_neg]; exact sml_add hp (sml_neg hq)
theorem t2B {f : Rat → Rat → Rat} {s t : ByteArray} : tB (outB (f (vQ s) (vQ t))) s t = op2B f s t := by
 unfold tB wB op2B
 by_cases h1 : qE s = 0 <;> by_cases h2 : qE t = 0 <;> simp [h1, h2]
theorem t2E {f : Rat → Rat → Rat} {s t : ByteArray} : tE (outE (f (vQ s) (vQ t))) s t = op2E f s t := by
 unfold tE wE op2E
 by_cases h1 : qE s = 0 <;> by_cases h2 : qE t = 0 <;> simp [h1, h2]
theorem q_Mul1 (w : World) (v u : Value) (p q : Rat) (hp : IsQ .u64 w v p) (hq : IsQ .u64 w u q) (sp : Sml 1000 p) (sq : Sml 1000 q) (hL : Lay w) :
 Calls Tryz.prog 138 #[v, u] w fun e w' => e = .returned (.tuple #[.string (outB (p * q)), .int .i64 (outE (p * q))]) ∧ Below w.heap.size w w' := by
 have F1 := fun V v u hv hu => hid (f_Mul V v u p q hv hu (Nat.le_trans sp.n (by omega)) (Nat.le_trans sp.d (by omega)) (Nat.le_trans sq.n (by omega)) (Nat.le_trans sq.d (by omega)))
 have SQ := sml_mul sp sq
 have F2 := fun V v hv hV => hid (f_Num V v (p * q) hv (Nat.le_trans SQ.n (by omega)) (Nat.le_trans SQ.d (by omega)) hV)
 obtain ⟨Q, hQ⟩ : ∃ Q, p * q = Q := ⟨_, rfl⟩
 rw [hQ] at F1 F2 ⊢
 have HL := hid hL
 obtain ⟨N1, D1, rfl, hn1, hd1⟩ := hp.ex
 obtain ⟨N2, D2, rfl, hn2, hd2⟩ := hq.ex
 obtain ⟨a1, c1, rfl, _⟩ := hn1.openI
 obtain ⟨a2, c2, rfl, _⟩ := hd1.openI
 obtain ⟨a3, c3, rfl, _⟩ := hn2.openI
 obtain ⟨a4, c4, rfl, _⟩ := hd2.openI
 obtain ⟨k1, hk1⟩ : ∃ k, (limbs p.num.natAbs).length = k := ⟨_, rfl⟩
 obtain ⟨k2, hk2⟩ : ∃ k, (limbs p.den).length = k := ⟨_, rfl⟩
 obtain ⟨k3, hk3⟩ : ∃ k, (limbs q.num.natAbs).length = k := ⟨_, rfl⟩
 obtain ⟨k4, hk4⟩ : ∃ k, (limbs q.den).length = k := ⟨_, rfl⟩
 obtain ⟨m1, hm1⟩ : ∃ m, decide (p.num < 0) = m := ⟨_, rfl⟩
 obtain ⟨m2, hm2⟩ : ∃ m, decide (q.num < 0) = m := ⟨_, rfl⟩
 rw [hk1, hk2, hm1] at hp ⊢
 rw [hk3, hk4, hm2] at hq ⊢
 have X1 := hid (Blk.new w #[.bool m1, .slice a1 k1 c1, .slice a2 k2 c2] 94)
 have b1 := hid ((Below.refl w.heap.size w).alloc (Nat.le_refl _) (.cells #[.bool m1, .slice a1 k1 c1, .slice a2 k2 c2] 94))
 have Y1 := hid (X1.out.alloc (.cells #[.bool m2, .slice a3 k3 c3, .slice a4 k4 c4] 94))
 have X2 := hid (Blk.new (w.alloc (.cells #[.bool m1, .slice a1 k1 c1, .slice a2 k2 c2] 94)) #[.bool m2, .slice a3 k3 c3, .slice a4 k4 c4] 94)
 have b2 := hid (b1.out.alloc b1.out.size (.cells #[.bool m2, .slice a3 k3 c3, .slice a4 k4 c4] 94))
 have P2 := hid (hp.call b2.out)
 have Q2 := hid (hq.call b2.out)
 have r0 := Y1.out.cell 0
 have r1 := Y1.out.cell 1
 have r2 := Y1.out.cell 2
 have s0 := X2.out.cell 0
 have s1 := X2.out.cell 1
 have s2 := X2.out.cell 2
 simp at r0 r1 r2 s0 s1 s2
 clear hk1 hk2 hk3 hk4 hm1 hm2 hn1 hn2 hd1 hd2 hp hq hL sp sq SQ hQ
 go_enter Tryz.func138, Tryz.ntmps138
 go_wp2_with fail
 refine (F1 _ _ _ P2.out Q2.out).out.mono ?_; rintro e w3 ⟨⟨v3, rfl, hv3⟩, hb3⟩
 have y3 := hid (bnext b2.out hb3)
 obtain ⟨N3, D3, rfl, hn3, hd3⟩ := hv3.ex
 obtain ⟨a5, c5, rfl, _⟩ := hn3.openI
 obtain ⟨a6, c6, rfl, _⟩ := hd3.openI
 obtain ⟨k5, hk5⟩ : ∃ k, (limbs Q.num.natAbs).length = k := ⟨_, rfl⟩
 obtain ⟨k6, hk6⟩ : ∃ k, (limbs Q.den).length = k := ⟨_, rfl⟩
 obtain ⟨m3, hm3⟩ : ∃ m, decide (Q.num < 0) = m := ⟨_, rfl⟩
 rw [hk5, hk6, hm3] at hv3 ⊢
 have V3 := hid hv3
 clear hb3 hv3 hn3 hd3 hk5 hk6 hm3
 go_wp2_with fail
 refine (F2 _ _ V3.out (HL.out.call y3.out)).out.mono ?_; rintro e w4 ⟨rfl, hb4⟩
 have y4 := hid (bnext y3.out hb4); clear hb4
 go_wp2_with fail
 go_ret2
 exact ⟨rfl, y4.out⟩
theorem q_Mul (w : World) (s t : ByteArray) (hs : s.size ≤ 1000000) (ht : t.size ≤ 1000000) (hL : Lay w) :
 Calls Tryz.prog 64 #[.string s, .string t] w fun e w' => e = .returned (.tuple #[.string (op2B (· * ·) s t), .int .i64 (op2E (· * ·) s t)]) ∧ Below w.heap.size w w' := by
 have H := hid (q_both w s t 138 (outB (vQ s * vQ t)) (outE (vQ s * vQ t)) hs ht hL (enters_of Tryz.func138 (by kernel_rfl) rfl)
  (fun W v u h1 h2 hv hu hLW => q_Mul1 W v u _ _ hv hu (sml_vQ h1) (sml_vQ h2) hLW))
 rw [t2B, t2E (f := (· * ·))] at H
 obtain ⟨B, hB⟩ : ∃ B, op2B (· * ·) s t = B := ⟨_, rfl⟩
 obtain ⟨E, hE⟩ : ∃ E, op2E (· * ·) s t = E := ⟨_, rfl⟩
 rw [hB, hE] at H ⊢
 clear hB hE hs ht hL
 go_enter Tryz.func64, Tryz.ntmps64
 go_wp2_with fail
 refine H.out.mono ?_; rintro e w1 ⟨rfl, hb1⟩
 have y1 := hid hb1; clear hb1
 go_wp2_with fail
 go_ret2
 exact ⟨rfl, y1.out⟩
theorem q_Add1 (w : World) (v u : Value) (p q : Rat) (hp : IsQ .u64 w v p) (hq : IsQ .u64 w u q) (sp : Sml 1000 p) (sq : Sml 1000 q) (hL : Lay w) :
 Calls Tryz.prog 157 #[v, u] w fun e w' => e = .returned (.tuple #[.string (outB (p + q)), .int .i64 (outE (p + q))]) ∧ Below w.heap.size w w' := by
 have F1 := fun V v u hv hu => hid (f_Add V v u p q hv hu (Nat.le_trans sp.n (by omega)) (Nat.le_trans sp.d (by omega)) (Nat.le_trans sq.n (by omega)) (Nat.le_trans sq.d (by omega)))
 have SQ := sml_add sp sq
 have F2 := fun V v hv hV => hid (f_Num V v (p + q) hv (Nat.le_trans SQ.n (by omega)) (Nat.le_trans SQ.d (by omega)) hV)
 obtain ⟨Q, hQ⟩ : ∃ Q, p + q = Q := ⟨_, rfl⟩
 rw [hQ] at F1 F2 ⊢
 have HL := hid hL
 obtain ⟨N1, D1, rfl, hn1, hd1⟩ := hp.ex
 obtain ⟨N2, D2, rfl, hn2, hd2⟩ := hq.ex
 obtain ⟨a1, c1, rfl, _⟩ := hn1.openI
 obtain ⟨a2, c2, rfl, _⟩ := hd1.openI
 obtain ⟨a3, c3, rfl, _⟩ := hn2.openI
 obtain ⟨a4, c4, rfl, _⟩ := hd2.openI
 obtain ⟨k1, hk1⟩ : ∃ k, (limbs p.num.natAbs).length = k := ⟨_, rfl⟩
 obtain ⟨k2, hk2⟩ : ∃ k, (limbs p.den).length = k := ⟨_, rfl⟩
 obtain ⟨k3, hk3⟩ : ∃ k, (limbs q.num.natAbs).length = k := ⟨_, rfl⟩
 obtain ⟨k4, hk4⟩ : ∃ k, (limbs q.den).length = k := ⟨_, rfl⟩
 obtain ⟨m1, hm1⟩ : ∃ m, decide (p.num < 0) = m := ⟨_, rfl⟩
 obtain ⟨m2, hm2⟩ : ∃ m, decide (q.num < 0) = m := ⟨_, rfl⟩
 rw [hk1, hk2, hm1] at hp ⊢
 rw [hk3, hk4, hm2] at hq ⊢
 have X1 := hid (Blk.new w #[.bool m1, .slice a1 k1 c1, .slice a2 k2 c2] 94)
 have b1 := hid ((Below.refl w.heap.size w).alloc (Nat.le_refl _) (.cells #[.bool m1, .slice a1 k1 c1, .slice a2 k2 c2] 94))
 have Y1 := hid (X1.out.alloc (.cells #[.bool m2, .slice a3 k3 c3, .slice a4 k4 c4] 94))
 have X2 := hid (Blk.new (w.alloc (.cells #[.bool m1, .slice a1 k1 c1, .slice a2 k2 c2] 94)) #[.bool m2, .slice a3 k3 c3, .slice a4 k4 c4] 94)
 have b2 := hid (b1.out.alloc b1.out.size (.cells #[.bool m2, .slice a3 k3 c3, .slice a4 k4 c4] 94))
 have P2 := hid (hp.call b2.out)
 have Q2 := hid (hq.call b2.out)
 have r0 := Y1.out.cell 0
 have r1 := Y1.out.cell 1
 have r2 := Y1.out.cell 2
 have s0 := X2.out.cell 0
 have s1 := X2.out.cell 1
 have s2 := X2.out.cell 2
 simp at r0 r1 r2 s0 s1 s2
 clear hk1 hk2 hk3 hk4 hm1 hm2 hn1 hn2 hd1 hd2 hp hq hL sp sq SQ hQ
 go_enter Tryz.func157, Tryz.ntmps157
 go_wp2_with fail
 refine (F1 _ _ _ P2.out Q2.out).out.mono ?_; rintro e w3 ⟨⟨v3, rfl, hv3⟩, hb3⟩
 have y3 := hid (bnext b2.out hb3)
 obtain ⟨N3, D3, rfl, hn3, hd3⟩ := hv3.ex
 obtain ⟨a5, c5, rfl, _⟩ := hn3.openI
 obtain ⟨a6, c6, rfl, _⟩ := hd3.openI
 obtain ⟨k5, hk5⟩ : ∃ k, (limbs Q.num.natAbs).length = k := ⟨_, rfl⟩
 obtain ⟨k6, hk6⟩ : ∃ k, (limbs Q.den).length = k := ⟨_, rfl⟩
 obtain ⟨m3, hm3⟩ : ∃ m, decide (Q.num < 0) = m := ⟨_, rfl⟩
 rw [hk5, hk6, hm3] at hv3 ⊢
 have V3 := hid hv3
 clear hb3 hv3 hn3 hd3 hk5 hk6 hm3
 go_wp2_with fail
 refine (F2 _ _ V3.out (HL.out.call y3.out)).out.mono ?_; rintro e w4 ⟨rfl, hb4⟩
 have y4 := hid (bnext y3.out hb4); clear hb4
 go_wp2_with fail
 go_ret2
 exact ⟨rfl, y4.out⟩
theorem q_Add (w : World) (s t : ByteArray) (hs : s.size ≤ 1000000) (ht : t.size ≤ 1000000) (hL : Lay w) :
 Calls Tryz.prog 95 #[.string s, .string t] w fun e w' => e = .returned (.tuple #[.string (op2B (· + ·) s t), .int .i64 (op2E (· + ·) s t)]) ∧ Below w.heap.size w w' := by
 have H := hid (q_both w s t 157 (outB (vQ s + vQ t)) (outE (vQ s + vQ t)) hs ht hL (enters_of Tryz.func157 (by kernel_rfl) rfl)
  (fun W v u h1 h2 hv hu hLW => q_Add1 W v u _ _ hv hu (sml_vQ h1) (sml_vQ h2) hLW))
 rw [t2B, t2E (f := (· + ·))] at H
 obtain ⟨B, hB⟩ : ∃ B, op2B (· + ·) s t = B := ⟨_, rfl⟩
 obtain ⟨E, hE⟩ : ∃ E, op2E (· + ·) s t = E := ⟨_, rfl⟩
 rw [hB, hE] at H ⊢
 clear hB hE hs ht hL
 go_enter Tryz.func95, Tryz.ntmps95
 go_wp2_with fail
 refine H.out.mono ?_; rintro e w1 ⟨rfl, hb1⟩
 have y1 := hid hb1; clear hb1
 go_wp2_with fail
 go_ret2
 exact ⟨rfl, y1.out⟩
theorem q_Sub1 (w : World) (v u : Value) (p q : Rat) (hp : IsQ .u64 w v p) (hq : IsQ .u64 w u q) (sp : Sml 1000 p) (sq : Sml 1000 q) (hL : Lay w) :
 Calls Tryz.prog 160 #[v, u] w fun e w' => e = .returned (.tuple #[.string (outB (p - q)), .int .i64 (outE (p - q))]) ∧ Below w.heap.size w w' := by
 have F1 := fun V v u hv hu => hid (f_Sub V v u p q hv hu (Nat.le_trans sp.n (by omega)) (Nat.le_trans sp.d (by omega)) (Nat.le_trans sq.n (by omega)) (Nat.le_trans sq.d (by omega)))
 have SQ := sml_sub sp sq
 have F2 := fun V v hv hV => hid (f_Num V v (p - q) hv (Nat.le_trans SQ.n (by omega)) (Nat.le_trans SQ.d (by omega)) hV)
 obtain ⟨Q, hQ⟩ : ∃ Q, p - q = Q := ⟨_, rfl⟩
 rw [hQ] at F1 F2 ⊢
 have HL := hid hL
 obtain ⟨N1, D1, rfl, hn1, hd1⟩ := hp.ex
 obtain ⟨N2, D2, rfl, hn2, hd2⟩ := hq.ex
 obtain ⟨a1, c1, rfl, _⟩ := hn1.openI
 obtain ⟨a2, c2, rfl, _⟩ := hd1.openI
 obtain ⟨a3, c3, rfl, _⟩ := hn2.openI
 obtain ⟨a4, c4, rfl, _⟩ := hd2.openI
 obtain ⟨k1, hk1⟩ : ∃ k, (limbs p.num.natAbs).length = k := ⟨_, rfl⟩
 obtain ⟨k2, hk2⟩ : ∃ k, (limbs p.den).length = k := ⟨_, rfl⟩
 obtain ⟨k3, hk3⟩ : ∃ k, (limbs q.num.natAbs).length = k := ⟨_, rfl⟩
 obtain ⟨k4, hk4⟩ : ∃ k, (limbs q.den).length = k := ⟨_, rfl⟩
 obtain ⟨m1, hm1⟩ : ∃ m, decide (p.num < 0) = m := ⟨_, rfl⟩
 obtain ⟨m2, hm2⟩ : ∃ m, decide (q.num < 0) = m := ⟨_, rfl⟩
 rw [hk1, hk2, hm1] at hp ⊢
 rw [hk3, hk4, hm2] at hq ⊢
 have X1 := hid (Blk.new w #[.bool m1, .slice a1 k1 c1, .slice a2 k2 c2] 94)
 have b1 := hid ((Below.refl w.heap.size w).alloc (Nat.le_refl _) (.cells #[.bool m1, .slice a1 k1 c1, .slice a2 k2 c2] 94))
 have Y1 := hid (X1.out.alloc (.cells #[.bool m2, .slice a3 k3 c3, .slice a4 k4 c4] 94))
 have X2 := hid (Blk.new (w.alloc (.cells #[.bool m1, .slice a1 k1 c1, .slice a2 k2 c2] 94)) #[.bool m2, .slice a3 k3 c3, .slice a4 k4 c4] 94)
 have b2 := hid (b1.out.alloc b1.out.size (.cells #[.bool m2, .slice a3 k3 c3, .slice a4 k4 c4] 94))
 have P2 := hid (hp.call b2.out)
 have Q2 := hid (hq.call b2.out)
 have r0 := Y1.out.cell 0
 have r1 := Y1.out.cell 1
 have r2 := Y1.out.cell 2
 have s0 := X2.out.cell 0
 have s1 := X2.out.cell 1
 have s2 := X2.out.cell 2
 simp at r0 r1 r2 s0 s1 s2
 clear hk1 hk2 hk3 hk4 hm1 hm2 hn1 hn2 hd1 hd2 hp hq hL sp sq SQ hQ
 go_enter Tryz.func160, Tryz.ntmps160
 go_wp2_with fail
 refine (F1 _ _ _ P2.out Q2.out).out.mono ?_; rintro e w3 ⟨⟨v3, rfl, hv3⟩, hb3⟩
 have y3 := hid (bnext b2.out hb3)
 obtain ⟨N3, D3, rfl, hn3, hd3⟩ := hv3.ex
 obtain ⟨a5, c5, rfl, _⟩ := hn3.openI
 obtain ⟨a6, c6, rfl, _⟩ := hd3.openI
 obtain ⟨k5, hk5⟩ : ∃ k, (limbs Q.num.natAbs).length = k := ⟨_, rfl⟩
 obtain ⟨k6, hk6⟩ : ∃ k, (limbs Q.den).length = k := ⟨_, rfl⟩
 obtain ⟨m3, hm3⟩ : ∃ m, decide (Q.num < 0) = m := ⟨_, rfl⟩
 rw [hk5, hk6, hm3] at hv3 ⊢
 have V3 := hid hv3
 clear hb3 hv3 hn3 hd3 hk5 hk6 hm3
 go_wp2_with fail
 refine (F2 _ _ V3.out (HL.out.call y3.out)).out.mono ?_; rintro e w4 ⟨rfl, hb4⟩
 have y4 := hid (bnext y3.out hb4); clear hb4
 go_wp2_with fail
 go_ret2
 exact ⟨rfl, y4.out⟩
theorem q_Sub (w : World) (s t : ByteArray) (hs : s.size ≤ 1000000) (ht : t.size ≤ 1000000) (hL : Lay w) :
 Calls Tryz.prog 97 #[.string s, .string t] w fun e w' => e = .returned (.tuple #[.string (op2B (· - ·) s t), .int .i64 (op2E (· - ·) s t)]) ∧ Below w.heap.size w w' := by
 have H := hid (q_both w s t 160 (outB (vQ s - vQ t)) (outE (vQ s - vQ t)) hs ht hL (enters_of Tryz.func160 (by kernel_rfl) rfl)
  (fun W v u h1 h2 hv hu hLW => q_Sub1 W v u _ _ hv hu (sml_vQ h1) (sml_vQ h2) hLW))
 rw [t2B, t2E (f := (· - ·))] at H
 obtain ⟨B, hB⟩ : ∃ B, op2B (· - ·) s t = B := ⟨_, rfl⟩
 obtain ⟨E, hE⟩ : ∃ E, op2E (· - ·) s t = E := ⟨_, rfl⟩
 rw [hB, hE] at H ⊢
 clear hB hE hs ht hL
 go_enter Tryz.func97, Tryz.ntmps97
 go_wp2_with fail
 refine H.out.mono ?_; rintro e w1 ⟨rfl, hb1⟩
 have y1 := hid hb1; clear hb1
 go_wp2_with fail
 go_ret2
 exact ⟨rfl, y1.out⟩
theorem sp_plus (w : World) (s t : ByteArray) (hs : s.size ≤ 1000000) (ht : t.size ≤ 1000000) (hL : Lay w) :
 Calls Tryz.prog 34 #[.string s, .string t] w fun e w' => e = .returned (.string (op2B (· + ·) s t)) ∧ Below w.heap.size w w' := by
 have H := hid (q_Add w s t hs ht hL)
 obtain ⟨B, hB⟩ : ∃ B, op2B (· + ·) s t = B := ⟨_, rfl⟩
 obtain ⟨E, hE⟩ : ∃ E, op2E (· + ·) s t = E := ⟨_, rfl⟩
 rw [hB, hE] at H
 rw [hB]
 clear hs ht hL hB hE
 go_enter Tryz.func34, Tryz.ntmps34
 go_wp2_with fail
 refine H.out.mono ?_; rintro e w1 ⟨rfl, hb1⟩
 go_wp2_with fail
 go_ret
 exact ⟨rfl, hb1⟩
theorem sp_less (w : World) (s t : ByteArray) (hs : s.size ≤ 1000000) (ht : t.size ≤ 1000000) (hL : Lay w) :
 Calls Tryz.prog 37 #[.string s, .string t] w fun e w' => e = .returned (.string (op2B (· - ·) s t)) ∧ Below w.heap.size w w' := by
 have H := hid (q_Sub w s t hs ht hL)
 obtain ⟨B, hB⟩ : ∃ B, op2B (· - ·) s t = B := ⟨_, rfl⟩
 obtain ⟨E, hE⟩ : ∃ E, op2E (· - ·) s t = E := ⟨_, rfl⟩
 rw [hB, hE] at H
 rw [hB]
 clear hs ht hL hB hE
 go_enter Tryz.func37, Tryz.ntmps37
 go_wp2_with fail
 refine H.out.mono ?_; rintro e w1 ⟨rfl, hb1⟩
 go_wp2_with fail
 go_ret
 exact ⟨rfl, hb1⟩
theorem sp_times (w : World) (s t : ByteArray) (hs : s.size ≤ 1000000) (ht : t.size ≤ 1000000) (hL : Lay w) :
 Calls Tryz.prog 35 #[.string s, .string t] w fun e w' => e = .returned (.string (op2B (· * ·) s t)) ∧ Below w.heap.size w w' := by
 have H := hid (q_Mul w s t hs ht hL)
 obtain ⟨B, hB⟩ : ∃ B, op2B (· * ·) s t = B := ⟨_, rfl⟩
 obtain ⟨E, hE⟩ : ∃ E, op2E (· * ·) s t = E := ⟨_, rfl⟩
 rw [hB, hE] at H
 rw [hB]
 clear hs ht hL hB hE
 go_enter Tryz.func35, Tryz.ntmps35
 go_wp2_with fail
 refine H.out.mono ?_; rintro e w1 ⟨rfl, hb1⟩
 go_wp2_with fail
 go_ret
 exact ⟨rfl, hb1⟩
end Go.Proofs.YtlmnpocifldpmaaGreatDoor
namespace Go.Proofs.YtlmnpocifldpmaaGreatDoor
open Go.RowKit
def blw (g : Int → Nat) (n : Nat) (j : Int) : Nat := zS n fun y => if decide (y < j) = true then g y else 0
theorem blw_le (g : Int → Nat) (n : Nat) (j : Int) : blw g n j ≤ zS n g := zS_le fun v _ _ => by split <;> omega
theorem blw_not (g : Int → Nat) (n : Nat) (j : Int) : zS n (fun y => if (!decide (y < j)) = true then g y else 0) = zS n g - blw g n j := by
 have : zS n (fun y => if (!decide (y < j)) = true then g y else 0) + blw g n j = zS n g := by
  unfold blw
  rw [← zS_add]
  refine zS_congr fun y _ _ => ?_
  by_cases h : y < j
  ·rw [decide_eq_true h]; simp
  ·rw [decide_eq_false h]; simp
 omega
def gap2 (t : Int) (i k : Nat) (ck : Int) : Int → Bool := fun y => if k < i then decide (y < t - ck) else if k = i then !decide (y < t - ck) else true
def ps2 (t : Int) (i : Nat) : Nat → List Int → List (Int → Bool)
 | _, [] => []
 | k, ck :: r => gap2 t i k ck :: ps2 t i (k + 1) r
theorem ps2_length (t : Int) (i : Nat) : ∀ (l : List Int) k, (ps2 t i k l).length = l.length
 | [], _ => rfl
 | c :: r, k => by rw [ps2, List.length_cons, ps2_length t i r, List.length_cons]
def sq1 (g : Int → Nat) (n : Nat) (t : Int) (i k : Nat) (ck : Int) : Nat := if k < i then blw g n (t - ck) else if k = i then zS n g - blw g n (t - ck) else zS n g
def sqF (g : Int → Nat) (n : Nat) (t : Int) (i : Nat) : Nat → List Int → Nat
 | _, [] => 1
 | k, ck :: r => sq1 g n t i k ck * sqF g n t i (k + 1) r
theorem sq1_eq (g : Int → Nat) (n : Nat) (t : Int) (i k : Nat) (ck : Int) : zS n (fun y => if gap2 t i k ck y = true then g y else 0) = sq1 g n t i k ck := by
 unfold gap2 sq1
 by_cases h1 : k < i
 ·rw [if_pos h1]
  exact zS_congr fun y _ _ => by rw [if_pos h1]
 ·rw [if_neg h1]
  by_cases h2 : k = i
  ·rw [if_pos h2, ← blw_not]
   exact zS_congr fun y _ _ => by rw [if_neg h1, if_pos h2]
  ·rw [if_neg h2]
   exact zS_congr fun y _ _ => by rw [if_neg h1, if_neg h2]; rfl
theorem sqF_eq (g : Int → Nat) (n : Nat) (t : Int) (i : Nat) : ∀ (l : List Int) (k : Nat), pPr n (List.replicate l.length g) (ps2 t i k l) = sqF g n t i k l
 | [], _ => rfl
 | c :: r, k => by rw [List.length_cons, List.replicate_succ, ps2, pPr, sqF, sqF_eq g n t i r, sq1_eq]
def sqT (gA gC : Int → Nat) (n : Nat) (thr : Int) (c : List Int) (i : Nat) : Nat := zS n fun x => gA x * sqF gC n (thr + x) i 0 c
def hitI (t : Int) (l : List Int) : Nat := l.findIdx fun z => decide (t ≤ z)
theorem all2_iff {t : Int} {i : Nat} : ∀ (l xs : List Int) (k : Nat), xs.length = l.length → (allP (ps2 t i k l) xs = true ↔ ∀ j x ck, l[j]? = some ck → xs[j]? = some x → gap2 t i (k + j) ck x = true)
 | [], [], k, _ => by simp [ps2, allP]
 | c :: r, x :: xs, k, h => by
  rw [ps2, allP, Bool.and_eq_true, all2_iff r xs (k + 1) (by simpa using h)]
  constructor
  ·rintro ⟨h1, h2⟩ j y cy hc hy
   cases j with
   | zero => simp at hc hy; subst hc hy; exact h1
   | succ j => simp at hc hy; have := h2 j y cy hc hy; rwa [Nat.add_right_comm] at this
  ·intro h1
   refine ⟨h1 0 x c rfl rfl, fun j y cy hc hy => ?_⟩
   have := h1 (j + 1) y cy (by simpa using hc) (by simpa using hy)
   rwa [Nat.add_right_comm]
theorem nzV_length {c xs : List Int} (h : xs.length = c.length) : (nzV c xs).length = c.length := by
 unfold nzV
 rw [List.length_zipWith, h, Nat.min_self]
theorem hit_iff {c xs : List Int} (h : xs.length = c.length) {t : Int} {i : Nat} (hi : i ≤ c.length) : allP (ps2 t i 0 c) xs = true ↔ hitI t (nzV c xs) = i := by
 rw [all2_iff c xs 0 h]
 simp only [Nat.zero_add]
 have hlen := nzV_length h
 have get : ∀ k (hk : k < c.length), (nzV c xs)[k]'(by omega) = c[k] + xs[k]'(by omega) := fun k hk => by simp [nzV]
 unfold hitI
 constructor
 ·intro ha
  have hlt : ∀ k (hk : k < c.length), k < i → ¬ t ≤ (nzV c xs)[k]'(by omega) := fun k hk hki => by
   have := ha k (xs[k]'(by omega)) c[k] (List.getElem?_eq_getElem hk) (List.getElem?_eq_getElem (by omega))
   unfold gap2 at this
   rw [if_pos hki, decide_eq_true_iff] at this
   rw [get k hk]; omega
  by_cases hc : i = c.length
  ·have : (nzV c xs).findIdx (fun z => decide (t ≤ z)) = (nzV c xs).length := List.findIdx_eq_length.2 fun z hz => by
    obtain ⟨k, hk, rfl⟩ := List.getElem_of_mem hz
    exact decide_eq_false (hlt k (by omega) (by omega))
   omega
  ·have hic : i < c.length := by omega
   rw [List.findIdx_eq (by omega)]
   refine ⟨?_, fun j hj => decide_eq_false (hlt j (by omega) hj)⟩
   have := ha i (xs[i]'(by omega)) c[i] (List.getElem?_eq_getElem hic) (List.getElem?_eq_getElem (by omega))
   unfold gap2 at this
   rw [if_neg (Nat.lt_irrefl _), if_pos rfl, Bool.not_eq_true', decide_eq_false_iff_not] at this
   rw [get i hic]
   exact decide_eq_true (by omega)
 ·intro hf k x ck h1 h2
  obtain ⟨hk, rfl⟩ := List.getElem?_eq_some_iff.1 h1
  obtain ⟨hk2, rfl⟩ := List.getElem?_eq_some_iff.1 h2
  unfold gap2
  by_cases hki : k < i
  ·rw [if_pos hki]
   have := List.not_of_lt_findIdx (p := fun z => decide (t ≤ z)) (xs := nzV c xs) (i := k) (by omega)
   rw [get k hk] at this
   have := of_decide_eq_false (by simpa using this : decide (t ≤ c[k] + xs[k]) = false)
   exact decide_eq_true (by omega)
  ·rw [if_neg hki]
   by_cases he : k = i
   ·rw [if_pos he]
    subst he
    have hlt : (nzV c xs).findIdx (fun z => decide (t ≤ z)) < (nzV c xs).length := by omega
    have := List.findIdx_getElem (w := hlt)
    simp only [hf] at this
    rw [get k hk] at this
    have := of_decide_eq_true this
    simp; omega
   ·rw [if_neg he]
def sqA (thr : Int) (c : List Int) : List Int → Nat
 | x :: ys => hitI (thr + x) (nzV c ys)
 | [] => 0
theorem sqT_vw (gA gC : Int → Nat) (n : Nat) (thr : Int) (c : List Int) {i : Nat} (hi : i ≤ c.length) : sqT gA gC n thr c i = vw n (gA :: List.replicate c.length gC) (fun xs => b1 (decide (sqA thr c xs = i))) := by
 unfold sqT
 rw [vw]
 refine zS_congr fun x _ _ => ?_
 rw [← sqF_eq, ← vw_prod n _ _ (by rw [List.length_replicate, ps2_length])]
 congr 1
 refine vw_congr fun ys hl _ => ?_
 rw [List.length_replicate] at hl
 congr 1
 rw [Bool.eq_iff_iff, hit_iff hl hi, decide_eq_true_iff]; rfl
theorem hitI_le (t : Int) (l : List Int) : hitI t l ≤ l.length := List.findIdx_le_length
theorem sqT_all (gA gC : Int → Nat) (n : Nat) (thr : Int) (c : List Int) : sumN (sqT gA gC n thr c) (c.length + 1) = zS n gA * zS n gC ^ c.length := by
 rw [sumN_congr (fun i hi => sqT_vw gA gC n thr c (Nat.le_of_lt_succ hi)), ← vw_sum]
 have : ∀ L, pAll n (List.replicate L gC) = zS n gC ^ L := fun L => by
  induction L with
  | zero => rfl
  | succ L ih => rw [List.replicate_succ, pAll_cons, ih, Nat.pow_succ, Nat.mul_comm]
 rw [← this, ← pAll_cons]
 refine vw_congr fun xs hl _ => ?_
 cases xs with
 | nil => simp at hl
 | cons x ys =>
  simp at hl
  have hle := hitI_le (thr + x) (nzV c ys)
  rw [nzV_length hl] at hle
  have hA : sqA thr c (x :: ys) = hitI (thr + x) (nzV c ys) := rfl
  rw [hA, sumN_congr (d := fun i => if hitI (thr + x) (nzV c ys) = i then 1 else 0) (fun i _ => by
   by_cases e : hitI (thr + x) (nzV c ys) = i
   ·rw [if_pos e, b1, if_pos (decide_eq_true e)]
   ·rw [if_neg e, b1, if_neg (by simpa using e)]), sumN_one, if_pos (by omega)]
theorem below_grown {w w' : World} (h : Below w.heap.size w w') (row : Option Nat) : w.grownBy w' row := ⟨h.os, h.tape, h.output, h.size, fun k hk _ => h.block k hk⟩
theorem r1_MinusF (w : World) (v u : Value) (a b : Nat) (ha : IsN .i64 w v a) (hb : IsN .i64 w u b) (hle : b ≤ a) (hla : (limbs a).length ≤ 1000000) :
 Calls Tryz.prog 151 #[v, u] w fun e w' => RetFr w.heap.size .i64 (a - b) e w' ∧ Below w.heap.size w w' := by
 obtain ⟨i0, hi, hz0, hz1, hz2⟩ := info_parts info_int
 obtain ⟨a1, c1, rfl, h1, h2, h3⟩ := ha.openI
 obtain ⟨a2, c2, rfl, k1, k2, k3⟩ := hb.openI
 have H3 := hid h3; have K3 := hid k3; clear h3 k3 ha hb
 have hmn := limbs_length_mono hle
 obtain ⟨n, ea⟩ : ∃ n, (limbs a).length = n := ⟨_, rfl⟩
 obtain ⟨m, eb⟩ : ∃ m, (limbs b).length = m := ⟨_, rfl⟩
 rw [ea] at h1 hla hmn ⊢
 rw [eb] at k1 hmn ⊢
 have HA := hid ea; have HB := hid eb; have HL := hid hle
 clear ea eb hle
 go_enter Tryz.func151, Tryz.ntmps151
 go_wp2_with fail
 go_loopw [5, 6, 7, 8] (fun o cc i nn wr => ∃ (s : List Nat) (c : Nat) (C : Int), i = .int .i64 s.length ∧ cc = .int .i64 C ∧ C = (c : Int) ∧ c ≤ 1 ∧ s.length ≤ n ∧ Hid (MinusI a b s c) ∧ Hid (wr.ownsRow w.heap.size 3 1 o s.length (ints .i64 s)) ∧ Hid (Below w.heap.size w wr))
  (fun _ _ i _ _ => n - (intOf i).toNat)
 case atStart => exact ⟨[], 0, 0, rfl, rfl, rfl, by omega, by simp, MinusI.start a b, World.ownsRow_nil _ _ _ _, Below.refl _ _⟩
 case round =>
  obtain ⟨s, c, C, rfl, rfl, hC, hc1, hs1, hP, hO, hB⟩ := hrel
  obtain ⟨ao, co, rfl⟩ := owns_ex hO.out
  by_cases hA : s.length < n
  ·obtain ⟨x, hx⟩ : ∃ x, (limbs a)[s.length]? = some x := ⟨_, List.getElem?_eq_getElem (by rw [HA.out]; exact hA)⟩
   obtain ⟨g, og, rfl, hg, hc⟩ := H3.out _ x hx
   have hc' := (hB.out.cell (p := ⟨g, og + s.length, none⟩) hg).trans hc
   have hxl := (sm_limbs a).get hx
   have HX := hid hx; clear hx hc
   by_cases hB' : s.length < m
   ·obtain ⟨y, hy⟩ : ∃ y, (limbs b)[s.length]? = some y := ⟨_, List.getElem?_eq_getElem (by rw [HB.out]; exact hB')⟩
    obtain ⟨g', og', rfl, hg', hd⟩ := K3.out _ y hy
    have hd' := (hB.out.cell (p := ⟨g', og' + s.length, none⟩) hg').trans hd
    have hyl := (sm_limbs b).get hy
    have HY := hid hy; clear hy hd
    rcases (show c = 0 ∨ c = 1 by omega) with rfl | rfl
    ·obtain rfl : C = 0 := by omega
     clear hC
     by_cases hneg : x < y + 0
     ·obtain ⟨z, hz0', hz1', hzI⟩ : ∃ z : Nat, x + 1000000000 * 1 = z + 0 + y ∧ z < 1000000000 ∧ Hid ((↑x - ↑y + 1000000000 : Int) = (z : Int)) := ⟨((↑x - ↑y + 1000000000 : Int)).toNat, by omega, by omega, by rw [Hid]; omega⟩
      have HN := hid (hP.out.next (z := z) (c' := 1) (by rw [getD_of HX.out, getD_of HY.out]; omega) hz1' (by omega))
      clear hz0' hz1'
      have q1 : decide ((x : Int) - (y : Int) < 0) = true := by simp <;> omega
      clear hneg
      go_wp2_with (at_builtin; refine wpList_append_own _ rfl _ _ 89 rfl w.heap.size 3 i0 (.int .i64 0) 1 8 Tryz.underlying89 hi hz0 hz1 hz2 rfl (by decide) _ s.length _ rfl (hO.out.alloc _) ⟨wr.heap.size, 0, none⟩ 1 1 [.int .i64 ((↑x - ↑y + 1000000000 : Int))] rfl rfl (cell_one_new wr (.int .i64 ((↑x - ↑y + 1000000000 : Int))) 3) (by simp [Value.oneCell']) (by unfold maxLen; omega) (by omega) (by have := hB.out.size; simp; omega) ?_; intro v' w3 hown3 hgrow3 _; have HO3 := hid hown3; have HG3 := hid hgrow3; clear hown3 hgrow3)
      rw [hzI.out] at HO3
      obtain ⟨n1, n2⟩ := own_next hO.out hB.out HO3.out HG3.out
      have N1 := hid n1; have N2 := hid n2; clear n1 n2 HO3 HG3
      obtain ⟨a3, k3, rfl⟩ := owns_ex N1.out
      go_wp2_with fail
      go_roundw
      case rel => exact ⟨s ++ [z], 1, _, by simp, rfl, by simp, by omega, by simp <;> omega, HN, N1, N2⟩
      case measure => simp [intOf] <;> omega
     ·obtain ⟨z, hz0', hz1', hzI⟩ : ∃ z : Nat, x + 1000000000 * 0 = z + 0 + y ∧ z < 1000000000 ∧ Hid ((↑x - ↑y : Int) = (z : Int)) := ⟨((↑x - ↑y : Int)).toNat, by omega, by omega, by rw [Hid]; omega⟩
      have HN := hid (hP.out.next (z := z) (c' := 0) (by rw [getD_of HX.out, getD_of HY.out]; omega) hz1' (by omega))
      clear hz0' hz1'
      have q1 : decide ((x : Int) - (y : Int) < 0) = false := by simp <;> omega
      clear hneg
      go_wp2_with (at_builtin; refine wpList_append_own _ rfl _ _ 89 rfl w.heap.size 3 i0 (.int .i64 0) 1 8 Tryz.underlying89 hi hz0 hz1 hz2 rfl (by decide) _ s.length _ rfl (hO.out.alloc _) ⟨wr.heap.size, 0, none⟩ 1 1 [.int .i64 ((↑x - ↑y : Int))] rfl rfl (cell_one_new wr (.int .i64 ((↑x - ↑y : Int))) 3) (by simp [Value.oneCell']) (by unfold maxLen; omega) (by omega) (by have := hB.out.size; simp; omega) ?_; intro v' w3 hown3 hgrow3 _; have HO3 := hid hown3; have HG3 := hid hgrow3; clear hown3 hgrow3)
      rw [hzI.out] at HO3
      obtain ⟨n1, n2⟩ := own_next hO.out hB.out HO3.out HG3.out
      have N1 := hid n1; have N2 := hid n2; clear n1 n2 HO3 HG3
      obtain ⟨a3, k3, rfl⟩ := owns_ex N1.out
      go_wp2_with fail
      go_roundw
      case rel => exact ⟨s ++ [z], 0, _, by simp, rfl, by simp, by omega, by simp <;> omega, HN, N1, N2⟩
      case measure => simp [intOf] <;> omega
    ·obtain rfl : C = 1 := by omega
     clear hC
     by_cases hneg : x < y + 1
     ·obtain ⟨z, hz0', hz1', hzI⟩ : ∃ z : Nat, x + 1000000000 * 1 = z + 1 + y ∧ z < 1000000000 ∧ Hid ((↑x - 1 - ↑y + 1000000000 : Int) = (z : Int)) := ⟨((↑x - 1 - ↑y + 1000000000 : Int)).toNat, by omega, by omega, by rw [Hid]; omega⟩
      have HN := hid (hP.out.next (z := z) (c' := 1) (by rw [getD_of HX.out, getD_of HY.out]; omega) hz1' (by omega))
      clear hz0' hz1'
      have q1 : decide ((x : Int) - 1 - (y : Int) < 0) = true := by simp <;> omega
      clear hneg
      go_wp2_with (at_builtin; refine wpList_append_own _ rfl _ _ 89 rfl w.heap.size 3 i0 (.int .i64 0) 1 8 Tryz.underlying89 hi hz0 hz1 hz2 rfl (by decide) _ s.length _ rfl (hO.out.alloc _) ⟨wr.heap.size, 0, none⟩ 1 1 [.int .i64 ((↑x - 1 - ↑y + 1000000000 : Int))] rfl rfl (cell_one_new wr (.int .i64 ((↑x - 1 - ↑y + 1000000000 : Int))) 3) (by simp [Value.oneCell']) (by unfold maxLen; omega) (by omega) (by have := hB.out.size; simp; omega) ?_; intro v' w3 hown3 hgrow3 _; have HO3 := hid hown3; have HG3 := hid hgrow3; clear hown3 hgrow3)
      rw [hzI.out] at HO3
      obtain ⟨n1, n2⟩ := own_next hO.out hB.out HO3.out HG3.out
      have N1 := hid n1; have N2 := hid n2; clear n1 n2 HO3 HG3
      obtain ⟨a3, k3, rfl⟩ := owns_ex N1.out
      go_wp2_with fail
      go_roundw
      case rel => exact ⟨s ++ [z], 1, _, by simp, rfl, by simp, by omega, by simp <;> omega, HN, N1, N2⟩
      case measure => simp [intOf] <;> omega
     ·obtain ⟨z, hz0', hz1', hzI⟩ : ∃ z : Nat, x + 1000000000 * 0 = z + 1 + y ∧ z < 1000000000 ∧ Hid ((↑x - 1 - ↑y : Int) = (z : Int)) := ⟨((↑x - 1 - ↑y : Int)).toNat, by omega, by omega, by rw [Hid]; omega⟩
      have HN := hid (hP.out.next (z := z) (c' := 0) (by rw [getD_of HX.out, getD_of HY.out]; omega) hz1' (by omega))
      clear hz0' hz1'
      have q1 : decide ((x : Int) - 1 - (y : Int) < 0) = false := by simp <;> omega
      clear hneg
      go_wp2_with (at_builtin; refine wpList_append_own _ rfl _ _ 89 rfl w.heap.size 3 i0 (.int .i64 0) 1 8 Tryz.underlying89 hi hz0 hz1 hz2 rfl (by decide) _ s.length _ rfl (hO.out.alloc _) ⟨wr.heap.size, 0, none⟩ 1 1 [.int .i64 ((↑x - 1 - ↑y : Int))] rfl rfl (cell_one_new wr (.int .i64 ((↑x - 1 - ↑y : Int))) 3) (by simp [Value.oneCell']) (by unfold maxLen; omega) (by omega) (by have := hB.out.size; simp; omega) ?_; intro v' w3 hown3 hgrow3 _; have HO3 := hid hown3; have HG3 := hid hgrow3; clear hown3 hgrow3)
      rw [hzI.out] at HO3
      obtain ⟨n1, n2⟩ := own_next hO.out hB.out HO3.out HG3.out
      have N1 := hid n1; have N2 := hid n2; clear n1 n2 HO3 HG3
      obtain ⟨a3, k3, rfl⟩ := owns_ex N1.out
      go_wp2_with fail
      go_roundw
      case rel => exact ⟨s ++ [z], 0, _, by simp, rfl, by simp, by omega, by simp <;> omega, HN, N1, N2⟩
      case measure => simp [intOf] <;> omega
   ·skip
    rcases (show c = 0 ∨ c = 1 by omega) with rfl | rfl
    ·obtain rfl : C = 0 := by omega
     clear hC
     by_cases hneg : x < 0 + 0
     ·omega
     ·obtain ⟨z, hz0', hz1', hzI⟩ : ∃ z : Nat, x + 1000000000 * 0 = z + 0 + 0 ∧ z < 1000000000 ∧ Hid ((↑x : Int) = (z : Int)) := ⟨((↑x : Int)).toNat, by omega, by omega, by rw [Hid]; omega⟩
      have HN := hid (hP.out.next (z := z) (c' := 0) (by rw [getD_of HX.out, getD_none (by rw [HB.out]; omega)]; omega) hz1' (by omega))
      clear hz0' hz1'
      have q1 : decide ((x : Int) < 0) = false := by simp <;> omega
      clear hneg
      go_wp2_with (at_builtin; refine wpList_append_own _ rfl _ _ 89 rfl w.heap.size 3 i0 (.int .i64 0) 1 8 Tryz.underlying89 hi hz0 hz1 hz2 rfl (by decide) _ s.length _ rfl (hO.out.alloc _) ⟨wr.heap.size, 0, none⟩ 1 1 [.int .i64 ((↑x : Int))] rfl rfl (cell_one_new wr (.int .i64 ((↑x : Int))) 3) (by simp [Value.oneCell']) (by unfold maxLen; omega) (by omega) (by have := hB.out.size; simp; omega) ?_; intro v' w3 hown3 hgrow3 _; have HO3 := hid hown3; have HG3 := hid hgrow3; clear hown3 hgrow3)
      rw [hzI.out] at HO3
      obtain ⟨n1, n2⟩ := own_next hO.out hB.out HO3.out HG3.out
      have N1 := hid n1; have N2 := hid n2; clear n1 n2 HO3 HG3
      obtain ⟨a3, k3, rfl⟩ := owns_ex N1.out
      go_wp2_with fail
      go_roundw
      case rel => exact ⟨s ++ [z], 0, _, by simp, rfl, by simp, by omega, by simp <;> omega, HN, N1, N2⟩
      case measure => simp [intOf] <;> omega
    ·obtain rfl : C = 1 := by omega
     clear hC
     by_cases hneg : x < 0 + 1
     ·obtain ⟨z, hz0', hz1', hzI⟩ : ∃ z : Nat, x + 1000000000 * 1 = z + 1 + 0 ∧ z < 1000000000 ∧ Hid ((↑x - 1 + 1000000000 : Int) = (z : Int)) := ⟨((↑x - 1 + 1000000000 : Int)).toNat, by omega, by omega, by rw [Hid]; omega⟩
      have HN := hid (hP.out.next (z := z) (c' := 1) (by rw [getD_of HX.out, getD_none (by rw [HB.out]; omega)]; omega) hz1' (by omega))
      clear hz0' hz1'
      have q1 : decide ((x : Int) - 1 < 0) = true := by simp <;> omega
      clear hneg
      go_wp2_with (at_builtin; refine wpList_append_own _ rfl _ _ 89 rfl w.heap.size 3 i0 (.int .i64 0) 1 8 Tryz.underlying89 hi hz0 hz1 hz2 rfl (by decide) _ s.length _ rfl (hO.out.alloc _) ⟨wr.heap.size, 0, none⟩ 1 1 [.int .i64 ((↑x - 1 + 1000000000 : Int))] rfl rfl (cell_one_new wr (.int .i64 ((↑x - 1 + 1000000000 : Int))) 3) (by simp [Value.oneCell']) (by unfold maxLen; omega) (by omega) (by have := hB.out.size; simp; omega) ?_; intro v' w3 hown3 hgrow3 _; have HO3 := hid hown3; have HG3 := hid hgrow3; clear hown3 hgrow3)
      rw [hzI.out] at HO3
      obtain ⟨n1, n2⟩ := own_next hO.out hB.out HO3.out HG3.out
      have N1 := hid n1; have N2 := hid n2; clear n1 n2 HO3 HG3
      obtain ⟨a3, k3, rfl⟩ := owns_ex N1.out
      go_wp2_with fail
      go_roundw
      case rel => exact ⟨s ++ [z], 1, _, by simp, rfl, by simp, by omega, by simp <;> omega, HN, N1, N2⟩
      case measure => simp [intOf] <;> omega
     ·obtain ⟨z, hz0', hz1', hzI⟩ : ∃ z : Nat, x + 1000000000 * 0 = z + 1 + 0 ∧ z < 1000000000 ∧ Hid ((↑x - 1 : Int) = (z : Int)) := ⟨((↑x - 1 : Int)).toNat, by omega, by omega, by rw [Hid]; omega⟩
      have HN := hid (hP.out.next (z := z) (c' := 0) (by rw [getD_of HX.out, getD_none (by rw [HB.out]; omega)]; omega) hz1' (by omega))
      clear hz0' hz1'
      have q1 : decide ((x : Int) - 1 < 0) = false := by simp <;> omega
      clear hneg
      go_wp2_with (at_builtin; refine wpList_append_own _ rfl _ _ 89 rfl w.heap.size 3 i0 (.int .i64 0) 1 8 Tryz.underlying89 hi hz0 hz1 hz2 rfl (by decide) _ s.length _ rfl (hO.out.alloc _) ⟨wr.heap.size, 0, none⟩ 1 1 [.int .i64 ((↑x - 1 : Int))] rfl rfl (cell_one_new wr (.int .i64 ((↑x - 1 : Int))) 3) (by simp [Value.oneCell']) (by unfold maxLen; omega) (by omega) (by have := hB.out.size; simp; omega) ?_; intro v' w3 hown3 hgrow3 _; have HO3 := hid hown3; have HG3 := hid hgrow3; clear hown3 hgrow3)
      rw [hzI.out] at HO3
      obtain ⟨n1, n2⟩ := own_next hO.out hB.out HO3.out HG3.out
      have N1 := hid n1; have N2 := hid n2; clear n1 n2 HO3 HG3
      obtain ⟨a3, k3, rfl⟩ := owns_ex N1.out
      go_wp2_with fail
      go_roundw
      case rel => exact ⟨s ++ [z], 0, _, by simp, rfl, by simp, by omega, by simp <;> omega, HN, N1, N2⟩
      case measure => simp [intOf] <;> omega
  ·obtain rfl : s.length = n := by omega
   have hv := hid (hP.out.done HA.out.symm HL.out)
   go_wp2_with (go_at_call 109; refine (r1_trim_at _ _ _ s hP.out.sm (Row.of_owns hO.out)).mono ?_; rintro e w1 ⟨⟨m1, rfl, hv1⟩, rfl⟩)
   go_ret
   exact ⟨⟨_, rfl, by rw [← hv.out]; exact hv1, fun g hg => (hO.out.lt g (by cases ao <;> exact hg)).1⟩, hB.out⟩
theorem r1_Minus (w : World) (v u : Value) (a b : Nat) (ha : IsN .i64 w v a) (hb : IsN .i64 w u b) (hle : b ≤ a) (hla : (limbs a).length ≤ 1000000) :
 Calls Tryz.prog 151 #[v, u] w fun e w' => RetN .i64 (a - b) e w' ∧ Below w.heap.size w w' :=
 (r1_MinusF w v u a b ha hb hle hla).mono fun _ _ h => ⟨h.1.ret, h.2⟩
open Go.Shelf
open Go.Lib (decDigits nDigits)
def ltB (x z : ByteArray) : Bool := Op.bytesLess x.toList z.toList
def addL (L : List (ByteArray × ByteArray)) (key p : ByteArray) : List (ByteArray × ByteArray) :=
 if p = ⟨#[48]⟩ then L else L.takeWhile (fun x => ltB x.1 key) ++ (key, p) :: L.dropWhile (fun x => ltB x.1 key)
theorem ltB_iff {x z : ByteArray} : ltB x z = true ↔ ¬ z.data.toList ≤ x.data.toList := by
 unfold ltB
 rw [bytesLess_eq, Lib.toList_data, Lib.toList_data, decide_eq_true_eq]
 exact List.not_le.symm
theorem drop_while_ge {key : ByteArray} : ∀ {L : List (ByteArray × ByteArray)}, L.Pairwise (fun p q => leB (keyL p) (keyL q) = true) → ∀ x ∈ L.dropWhile (fun x => ltB x.1 key), leB key.data.toList (keyL x) = true := by
 intro L
 induction L with
 | nil => intro _ x hx; simp at hx
 | cons a r ih =>
  intro h x hx
  obtain ⟨h1, h2⟩ := List.pairwise_cons.1 h
  by_cases ha : ltB a.1 key = true
  ·rw [List.dropWhile_cons, if_pos ha] at hx
   exact ih h2 x hx
  ·rw [List.dropWhile_cons, if_neg ha] at hx
   have hle : leB key.data.toList (keyL a) = true := by
    have := mt ltB_iff.2 ha
    unfold leB
    rw [decide_eq_true_eq]
    exact Decidable.not_not.1 this
   rcases List.mem_cons.1 hx with rfl | hx
   ·exact hle
   ·exact leB_trans _ _ _ hle (h1 x hx)
theorem mem_tw {α : Type} {f : α → Bool} {x : α} : ∀ {L : List α}, x ∈ L.takeWhile f → f x = true := by
 intro L
 induction L with
 | nil => intro h; simp at h
 | cons a r ih =>
  intro h
  by_cases ha : f a = true
  ·rw [List.takeWhile_cons, if_pos ha] at h
   rcases List.mem_cons.1 h with rfl | h
   ·exact ha
   ·exact ih h
  ·rw [List.takeWhile_cons, if_neg ha] at h; simp at h
theorem pw_inj {L : List (ByteArray × ByteArray)} : L.Pairwise (fun x y => x.1 ≠ y.1) → ∀ x ∈ L, ∀ y ∈ L, x.1 = y.1 → x = y := by
 induction L with
 | nil => intro _ x hx; simp at hx
 | cons a r ih =>
  intro h x hx y hy e
  obtain ⟨h1, h2⟩ := List.pairwise_cons.1 h
  rcases List.mem_cons.1 hx with e1 | hx' <;> rcases List.mem_cons.1 hy with e2 | hy'
  ·rw [e1, e2]
  ·rw [e1] at e; exact absurd e (h1 y hy')
  ·rw [e2] at e; exact absurd e.symm (h1 x hx')
  ·exact ih h2 x hx' y hy' e
theorem take_while_lt {key : ByteArray} {L : List (ByteArray × ByteArray)} : ∀ x ∈ L.takeWhile (fun x => ltB x.1 key), leB (keyL x) key.data.toList = true := fun x hx => by
 have h := mem_tw hx
 have := ltB_iff.1 h
 unfold leB
 rw [decide_eq_true_eq]
 rcases List.le_total (keyL x) key.data.toList with h' | h'
 ·exact h'
 ·exact absurd h' this
theorem addL_sort {L : List (ByteArray × ByteArray)} {key p : ByteArray} (hp : p ≠ ⟨#[48]⟩) (hk : ∀ x ∈ L, x.1 ≠ key) (hn : L.Pairwise (fun x y => x.1 ≠ y.1)) : addL (sortM L) key p = sortM (L ++ [(key, p)]) := by
 rw [addL, if_neg hp]
 have hs := sortM_sorted L
 have hperm : ((sortM L).takeWhile (fun x => ltB x.1 key) ++ (key, p) :: (sortM L).dropWhile (fun x => ltB x.1 key)).Perm (sortM (L ++ [(key, p)])) := by
  refine List.Perm.trans List.perm_middle ?_
  rw [List.takeWhile_append_dropWhile]
  refine List.Perm.trans ?_ (List.mergeSort_perm _ _).symm
  exact (List.Perm.cons _ (List.mergeSort_perm _ _)).trans (List.perm_append_singleton _ _).symm
 have hinj : ∀ x ∈ L ++ [(key, p)], ∀ y ∈ L ++ [(key, p)], x.1 = y.1 → x = y := by
  have hpw : (L ++ [(key, p)]).Pairwise (fun x y => x.1 ≠ y.1) := by
   rw [List.pairwise_append]
   exact ⟨hn, by simp, fun a ha b hb => by simp at hb; subst hb; exact hk a ha⟩
  exact pw_inj hpw
 refine List.Perm.eq_of_pairwise (le := fun p q => leB (keyL p) (keyL q) = true) ?_ ?_ (sortM_sorted _) hperm
 ·intro a b ha hb h1 h2
  have ha' : a ∈ L ++ [(key, p)] := sortM_mem.1 (hperm.mem_iff.1 ha)
  have hb' : b ∈ L ++ [(key, p)] := sortM_mem.1 hb
  refine hinj a ha' b hb' ?_
  simp only [leB, decide_eq_true_eq] at h1 h2
  exact ba_ext (List.le_antisymm h1 h2)
 ·rw [List.pairwise_append]
  refine ⟨hs.sublist (List.takeWhile_sublist _), ?_, fun a ha b hb => ?_⟩
  ·rw [List.pairwise_cons]
   exact ⟨fun x hx => drop_while_ge hs x hx, hs.sublist (List.dropWhile_sublist _)⟩
  ·have h1 := take_while_lt a ha
   rcases List.mem_cons.1 hb with rfl | hb
   ·exact h1
   ·exact leB_trans _ _ _ h1 (drop_while_ge hs b hb)
end Go.Proofs.YtlmnpocifldpmaaGreatDoor
namespace Go.Proofs.YtlmnpocifldpmaaGreatDoor
open Go.RowKit
open Go.Lib (decDigits nDigits)
structure Few (ws : List Nat) : Prop where
 len : ws.length ≤ 64
 dig : ∀ x ∈ ws, nDigits x ≤ 300
 pos : 0 < ws.sum
section
variable {ws : List Nat} {m : Nat} (h : Few ws) (hm : m ≤ 256)
include h
include hm
omit hm
end
section
variable {g : Int → Nat} {n : Nat} (hg : ∀ v : Int, v < 0 → g v = 0) (hz : zS n g ≤ 2 ^ n)
include hg hz
omit hg hz in
omit hg hz in
end
def notZ (p : ByteArray × ByteArray) : Bool := decide (p.2 ≠ ⟨#[48]⟩)
def sqB (g : Int → Nat) (n : Nat) (t : Int) (c : List Int) : Nat → Nat
 | 0 => 1
 | i + 1 => sqB g n t c i * blw g n (t - c.getD i 0)
theorem sqF_rest (g : Int → Nat) (n : Nat) (t : Int) (i : Nat) : ∀ (l : List Int) (k : Nat), i < k → sqF g n t i k l = zS n g ^ l.length
 | [], _, _ => rfl
 | c :: r, k, h => by
  rw [sqF, sqF_rest g n t i r (k + 1) (by omega), sq1, if_neg (by omega), if_neg (by omega), List.length_cons, Nat.pow_succ, Nat.mul_comm]
theorem sqF_at (g : Int → Nat) (n : Nat) (t : Int) (i : Nat) (c : List Int) : ∀ m k, k + m = i → i ≤ c.length → sqB g n t c k * sqF g n t i k (c.drop k) = sqB g n t c i * sqF g n t i i (c.drop i)
 | 0, k, h, _ => by
  obtain rfl : k = i := by omega
  rfl
 | m + 1, k, h, hi => by
  have hk : k < c.length := by omega
  have hd : c.getD k 0 = c[k] := by rw [List.getD_eq_getElem?_getD, List.getElem?_eq_getElem hk]; rfl
  rw [← sqF_at g n t i c m (k + 1) (by omega) hi, List.drop_eq_getElem_cons hk, sqF, sq1, if_pos (by omega), sqB, ← hd, Nat.mul_assoc]
theorem sqF_end (g : Int → Nat) (n : Nat) (t : Int) (c : List Int) : sqF g n t c.length 0 c = sqB g n t c c.length := by
 have h := sqF_at g n t c.length c c.length 0 (by omega) (Nat.le_refl _)
 rw [List.drop_length, sqF, Nat.mul_one] at h
 rw [← h, sqB, Nat.one_mul]; rfl
theorem sqF_hit (g : Int → Nat) (n : Nat) (t : Int) {c : List Int} {i : Nat} (hi : i < c.length) : sqF g n t i 0 c = sqB g n t c i * (zS n g - blw g n (t - c.getD i 0)) * zS n g ^ (c.length - 1 - i) := by
 have h := sqF_at g n t i c i 0 (by omega) (by omega)
 have hd : c.getD i 0 = c[i] := by rw [List.getD_eq_getElem?_getD, List.getElem?_eq_getElem hi]; rfl
 rw [List.drop_eq_getElem_cons hi, sqF, sq1, if_neg (by omega), if_pos rfl, sqF_rest g n t i (c.drop (i + 1)) (i + 1) (by omega), List.length_drop, sqB, Nat.one_mul] at h
 rw [Nat.mul_assoc, hd, show c.length - 1 - i = c.length - (i + 1) by omega, ← h]; rfl
theorem sqB_le {g : Int → Nat} {n : Nat} (hz : zS n g ≤ 2 ^ n) (t : Int) (c : List Int) : ∀ i, sqB g n t c i ≤ 2 ^ (n * i)
 | 0 => by rw [Nat.mul_zero]; exact Nat.le_refl _
 | i + 1 => by
  rw [sqB, Nat.mul_succ, Nat.pow_add]
  exact Nat.mul_le_mul (sqB_le hz t c i) (Nat.le_trans (blw_le g n _) hz)
theorem zs_pow {g : Int → Nat} {n : Nat} (hz : zS n g ≤ 2 ^ n) (i : Nat) : zS n g ^ i ≤ 2 ^ (n * i) := by
 rw [Nat.pow_mul]
 exact Nat.pow_le_pow_left hz i
def sV (f : Int → Nat) (l : List Int) : Nat := (l.map f).sum
theorem sV_nil (f : Int → Nat) : sV f [] = 0 := rfl
theorem sV_take {f : Int → Nat} {l : List Int} {i : Nat} {v : Int} (h : l[i]? = some v) : sV f (l.take (i + 1)) = sV f (l.take i) + f v := by
 unfold sV
 rw [List.take_add_one, h, Option.toList_some, List.map_append, List.sum_append]; simp
theorem sV_le {f : Int → Nat} {l : List Int} (i : Nat) : sV f (l.take i) ≤ sV f l := by
 have e : sV f l = sV f (l.take i) + sV f (l.drop i) := by
  conv => lhs; rw [← List.take_append_drop i l]
  unfold sV
  rw [List.map_append, List.sum_append]
 omega
theorem sV_perm {f : Int → Nat} {l m : List Int} (h : l.Perm m) : sV f l = sV f m := (h.map f).sum_nat
def Runs (g : Int → Nat) (n : Nat) (l : List Int) : Prop := ∀ f : Int → Nat, (∀ v, g v = 0 → f v = 0) → sV f l = zS n f
section
variable {gA gC : Int → Nat} {n : Nat} {kA kC : List Int} (hA : zS n gA ≤ 2 ^ n) (hC : zS n gC ≤ 2 ^ n) (rA : Runs gA n kA) (rC : Runs gC n kC)
def buV (g : Int → Nat) (most : Int) (v : Int) : Nat := if v < most then g v else 0
def beN' (g : Int → Nat) (k : List Int) (most : Int) (j : Nat) : Nat := sV (buV g most) (k.take j)
theorem be_end {g : Int → Nat} {k : List Int} (r : Runs g n k) (most : Int) : beN' g k most k.length = blw g n most := by
 unfold beN'
 rw [List.take_length, r (buV g most) (fun v h => by unfold buV; rw [h]; split <;> rfl)]
 unfold blw
 refine zS_congr fun y _ _ => ?_
 unfold buV
 by_cases h : y < most
 ·rw [if_pos h, if_pos (decide_eq_true h)]
 ·rw [if_neg h, if_neg (by simpa using h)]
theorem be_le {g : Int → Nat} {k : List Int} (hz : zS n g ≤ 2 ^ n) (r : Runs g n k) (most : Int) (j : Nat) : beN' g k most j ≤ 2 ^ n := by
 have h := be_end r most
 unfold beN' at h
 rw [List.take_length] at h
 have h1 := sV_le (f := buV g most) (l := k) j
 have h2 := blw_le g n most
 unfold beN'
 omega
theorem be_plus {g : Int → Nat} {k : List Int} (hz : zS n g ≤ 2 ^ n) (r : Runs g n k) {j : Nat} {v most : Int} (h : k[j]? = some v) (hv : v < most) (hn : n ≤ 1000) : op2B (· + ·) (dyB (beN' g k most j) n) (dyB (g v) n) = dyB (beN' g k most (j + 1)) n := by
 have e : beN' g k most (j + 1) = beN' g k most j + g v := by
  have := sV_take (f := buV g most) h
  unfold beN'
  rw [this]
  unfold buV
  rw [if_pos hv]
 have := be_le hz r most (j + 1)
 rw [e, dy_add (by omega) hn]
theorem be_skip {g : Int → Nat} {k : List Int} {j : Nat} {v most : Int} (h : k[j]? = some v) (hv : ¬ v < most) : beN' g k most (j + 1) = beN' g k most j := by
 have := sV_take (f := buV g most) h
 unfold beN'
 rw [this]
 unfold buV
 rw [if_neg hv]; rfl
theorem sq_after {i : Nat} (hC : zS n gC ≤ 2 ^ n) (hm : n * (i + 1) ≤ 1000) : op2B (· * ·) (dyB (zS n gC ^ i) (n * i)) (dyB (zS n gC) n) = dyB (zS n gC ^ (i + 1)) (n * (i + 1)) := by
 rw [dy_mul (zs_pow hC i) hC (by rw [Nat.mul_succ] at hm; exact hm), Nat.pow_succ, Nat.mul_succ]
def sqP (gA gC : Int → Nat) (n : Nat) (thr x : Int) (c : List Int) (i : Nat) : Nat := gA x * sqB gC n (thr + x) c i
theorem sqP_le (hA : zS n gA ≤ 2 ^ n) (hC : zS n gC ≤ 2 ^ n) (hx : ∀ x, gA x ≤ 2 ^ n) (thr x : Int) (c : List Int) (i : Nat) : sqP gA gC n thr x c i ≤ 2 ^ (n * (i + 1)) := by
 unfold sqP
 rw [Nat.mul_succ, Nat.add_comm, Nat.pow_add]
 exact Nat.mul_le_mul (hx x) (sqB_le hC _ _ _)
theorem sq_times (hA : zS n gA ≤ 2 ^ n) (hC : zS n gC ≤ 2 ^ n) (hx : ∀ x, gA x ≤ 2 ^ n) (thr x : Int) (c : List Int) {i : Nat} (hm : n * (i + 2) ≤ 1000) :
 op2B (· * ·) (dyB (sqP gA gC n thr x c i) (n * (i + 1))) (dyB (blw gC n (thr + x - c.getD i 0)) n) = dyB (sqP gA gC n thr x c (i + 1)) (n * (i + 2)) := by
 rw [dy_mul (sqP_le hA hC hx thr x c i) (Nat.le_trans (blw_le gC n _) hC) (by rw [Nat.mul_succ] at hm; exact hm)]
 unfold sqP
 rw [sqB, Nat.mul_assoc, show n * (i + 1) + n = n * (i + 2) from (Nat.mul_succ n (i + 1)).symm]
theorem sq_hit (hA : zS n gA ≤ 2 ^ n) (hC : zS n gC ≤ 2 ^ n) (hx : ∀ x, gA x ≤ 2 ^ n) (thr x : Int) {c : List Int} {i : Nat} (hi : i < c.length) (hm : n * (c.length + 1) ≤ 1000) :
 op2B (· * ·) (op2B (· * ·) (dyB (sqP gA gC n thr x c i) (n * (i + 1))) (op2B (· - ·) (dyB (zS n gC) n) (dyB (blw gC n (thr + x - c.getD i 0)) n))) (dyB (zS n gC ^ (c.length - 1 - i)) (n * (c.length - 1 - i))) = dyB (gA x * sqF gC n (thr + x) i 0 c) (n * (c.length + 1)) := by
 have b1 := blw_le gC n (thr + x - c.getD i 0)
 have e0 : n * (i + 1) + n + n * (c.length - 1 - i) = n * (c.length + 1) := by
  rw [← Nat.mul_succ, ← Nat.mul_add]; congr 1; omega
 have m1 : n * (i + 1) + n ≤ 1000 := by omega
 have l1 : sqP gA gC n thr x c i * (zS n gC - blw gC n (thr + x - c.getD i 0)) ≤ 2 ^ (n * (i + 1) + n) := by
  rw [Nat.pow_add]
  exact Nat.mul_le_mul (sqP_le hA hC hx thr x c i) (Nat.le_trans (Nat.sub_le _ _) hC)
 rw [dy_sub hC b1 (by omega), dy_mul (sqP_le hA hC hx thr x c i) (Nat.le_trans (Nat.sub_le _ _) hC) m1, dy_mul l1 (zs_pow hC _) (by omega), e0, sqF_hit gC n _ hi]
 unfold sqP
 congr 1
 rw [Nat.mul_assoc, Nat.mul_assoc, Nat.mul_assoc]
def sqS (gA gC : Int → Nat) (n : Nat) (thr : Int) (c : List Int) (k : List Int) (i j : Nat) : Nat := sV (fun x => gA x * sqF gC n (thr + x) i 0 c) (k.take j)
theorem sqS_end (rA : Runs gA n kA) (thr : Int) (c : List Int) (i : Nat) : sqS gA gC n thr c kA i kA.length = sqT gA gC n thr c i := by
 unfold sqS sqT
 rw [List.take_length]
 exact rA _ fun v h => by rw [h, Nat.zero_mul]
theorem sqT_le (hA : zS n gA ≤ 2 ^ n) (hC : zS n gC ≤ 2 ^ n) (thr : Int) (c : List Int) {i : Nat} (hi : i ≤ c.length) : sqT gA gC n thr c i ≤ 2 ^ (n * (c.length + 1)) := by
 have h1 := sqT_all gA gC n thr c
 have h2 := sumN_at (f := sqT gA gC n thr c) (i := i) (n := c.length + 1) (by omega)
 have h3 : zS n gA * zS n gC ^ c.length ≤ 2 ^ n * 2 ^ (n * c.length) := Nat.mul_le_mul hA (zs_pow hC _)
 rw [Nat.mul_succ, Nat.add_comm, Nat.pow_add]
 omega
theorem sqS_le (hA : zS n gA ≤ 2 ^ n) (hC : zS n gC ≤ 2 ^ n) (rA : Runs gA n kA) (thr : Int) (c : List Int) {i : Nat} (hi : i ≤ c.length) (j : Nat) : sqS gA gC n thr c kA i j ≤ 2 ^ (n * (c.length + 1)) := by
 have h := sqS_end (gC := gC) rA thr c i
 unfold sqS at h
 rw [List.take_length] at h
 have h1 := sV_le (f := fun x => gA x * sqF gC n (thr + x) i 0 c) (l := kA) j
 have h2 := sqT_le hA hC thr c hi
 unfold sqS
 omega
theorem sq_plus (hA : zS n gA ≤ 2 ^ n) (hC : zS n gC ≤ 2 ^ n) (rA : Runs gA n kA) (thr : Int) {c : List Int} {i j : Nat} {x : Int} (hi : i ≤ c.length) (h : kA[j]? = some x) (hm : n * (c.length + 1) ≤ 1000) :
 op2B (· + ·) (dyB (sqS gA gC n thr c kA i j) (n * (c.length + 1))) (dyB (gA x * sqF gC n (thr + x) i 0 c) (n * (c.length + 1))) = dyB (sqS gA gC n thr c kA i (j + 1)) (n * (c.length + 1)) := by
 have e : sqS gA gC n thr c kA i (j + 1) = sqS gA gC n thr c kA i j + gA x * sqF gC n (thr + x) i 0 c := sV_take h
 have := sqS_le (gC := gC) hA hC rA thr c hi (j + 1)
 rw [e, dy_add (by omega) hm]
theorem sqP_end (thr x : Int) (c : List Int) : sqP gA gC n thr x c c.length = gA x * sqF gC n (thr + x) c.length 0 c := by
 unfold sqP
 rw [sqF_end]
def sqL (gA gC : Int → Nat) (n L : Nat) : Nat := 2 ^ (n * (L + 1)) - zS n gA * zS n gC ^ L
theorem sq_sure (hA : zS n gA ≤ 2 ^ n) (hC : zS n gC ≤ 2 ^ n) {L : Nat} (hm : n * (L + 1) ≤ 1000) : op2B (· - ·) ⟨#[49]⟩ (op2B (· * ·) (dyB (zS n gA) n) (dyB (zS n gC ^ L) (n * L))) = dyB (sqL gA gC n L) (n * (L + 1)) := by
 have e : n + n * L = n * (L + 1) := by rw [Nat.mul_succ, Nat.add_comm]
 have h : zS n gA * zS n gC ^ L ≤ 2 ^ (n * (L + 1)) := by
  rw [← e, Nat.pow_add]
  exact Nat.mul_le_mul hA (zs_pow hC L)
 rw [dy_mul hA (zs_pow hC L) (by omega), e, ← dy_full (n * (L + 1)), dy_sub (Nat.le_refl _) h hm]; rfl
end
def m1B : ByteArray := ⟨#[45, 49]⟩
def sqAll (gA gC : Int → Nat) (n : Nat) (thr : Int) (c : List Int) (i : Nat) : List (ByteArray × ByteArray) := (List.range i).map fun k => (numB k, dyB (sqT gA gC n thr c k) (n * (c.length + 1)))
theorem sqAll_succ (gA gC : Int → Nat) (n : Nat) (thr : Int) (c : List Int) (i : Nat) : sqAll gA gC n thr c (i + 1) = sqAll gA gC n thr c i ++ [(numB i, dyB (sqT gA gC n thr c i) (n * (c.length + 1)))] := by
 unfold sqAll
 rw [List.range_succ, List.map_append]; rfl
theorem sqAll_length (gA gC : Int → Nat) (n : Nat) (thr : Int) (c : List Int) (i : Nat) : (sqAll gA gC n thr c i).length = i := by simp [sqAll]
def sqW (gA gC : Int → Nat) (n : Nat) (thr : Int) (c : List Int) (i : Nat) : List (ByteArray × ByteArray) :=
 [(m1B, dyB (sqT gA gC n thr c c.length) (n * (c.length + 1))), (lateB, dyB (sqL gA gC n c.length) (n * (c.length + 1)))] ++ sqAll gA gC n thr c i
theorem sqW_succ (gA gC : Int → Nat) (n : Nat) (thr : Int) (c : List Int) (i : Nat) : sqW gA gC n thr c (i + 1) = sqW gA gC n thr c i ++ [(numB i, dyB (sqT gA gC n thr c i) (n * (c.length + 1)))] := by
 unfold sqW
 rw [sqAll_succ, List.append_assoc]
def sqD (gA gC : Int → Nat) (n : Nat) (thr : Int) (c : List Int) : List (ByteArray × ByteArray) := (sqW gA gC n thr c c.length).filter notZ
theorem sqW_nd (gA gC : Int → Nat) (n : Nat) (thr : Int) (c : List Int) : ((sqW gA gC n thr c c.length).map keyL).Nodup := by
 unfold sqW sqAll
 rw [List.map_append, List.map_map]
 have hm : ∀ k : Nat, ∀ r : ByteArray, keyL (m1B, r) ≠ keyL (numB k, r) := fun k r e => by
  have e1 : zB (-1) = numB k := ByteArray.ext (Array.ext' (by
   have : keyL (m1B, r) = (zB (-1)).data.toList := show m1B.data.toList = (zB (-1)).data.toList from by decide +kernel
   rw [← this]; exact e))
  rw [← zB_nat] at e1
  have := zB_inj e1
  omega
 have hl : ∀ k : Nat, (numB k).data.toList ≠ lateB.data.toList := fun k => by
  have := zB_late (k : Int)
  rw [zB_nat] at this
  exact this
 refine List.nodup_append.2 ⟨show [m1B.data.toList, lateB.data.toList].Nodup from by decide +kernel, ?_, ?_⟩
 ·rw [List.Nodup, List.pairwise_map]
  refine List.nodup_range.imp fun {a b} hab e => hab ?_
  simp only [Function.comp, keyL, numB_list] at e
  exact decDigits_inj e
 ·intro a ha b hb e
  subst e
  simp only [List.mem_map, Function.comp] at hb
  obtain ⟨k, _, rfl⟩ := hb
  simp only [List.map_cons, List.map_nil, List.mem_cons, List.not_mem_nil, or_false] at ha
  rcases ha with h | h
  ·exact hm k ⟨#[]⟩ h.symm
  ·exact hl k h
theorem sqD_nd (gA gC : Int → Nat) (n : Nat) (thr : Int) (c : List Int) : ((sqD gA gC n thr c).map keyL).Nodup := (List.filter_sublist.map keyL).nodup (sqW_nd gA gC n thr c)
theorem dyB_size {x m : Nat} (hx : x ≤ 2 ^ m) (h : m ≤ 1000) : (dyB x m).size ≤ 10000 := by unfold dyB shB; exact outB_size _
def chV (g : Int → Nat) (n j : Nat) : List Int := ((List.range j).map fun (i : Nat) => (i : Int) - n).filter fun v => decide (g v ≠ 0)
theorem chV_succ (g : Int → Nat) (n j : Nat) : chV g n (j + 1) = chV g n j ++ if g ((j : Int) - n) = 0 then [] else [(j : Int) - n] := by
 unfold chV
 rw [List.range_succ, List.map_append, List.filter_append, List.map_singleton]
 by_cases h : g ((j : Int) - n) = 0
 ·simp [h]
 ·simp [h]
def smV (f : Int → Nat) (l : List Int) : Nat := (l.map f).sum
theorem smV_snoc (f : Int → Nat) (l : List Int) (v : Int) : smV f (l ++ [v]) = smV f l + f v := by simp [smV]
theorem smV_chV {f g : Int → Nat} (hf : ∀ v, g v = 0 → f v = 0) (n : Nat) : ∀ j, smV f (chV g n j) = sumN (fun i => f ((i : Int) - n)) j
 | 0 => rfl
 | j + 1 => by
  rw [chV_succ, sumN, ← smV_chV hf n j]
  split
  ·rename_i h
   rw [List.append_nil, hf _ h, Nat.add_zero]
  ·rw [smV_snoc]
theorem smV_all {f g : Int → Nat} (hf : ∀ v, g v = 0 → f v = 0) (n : Nat) : smV f (chV g n (2 * n + 1)) = zS n f := smV_chV hf n _
def chA (g : Int → Nat) (n : Nat) : List Int := chV g n (2 * n + 1)
end Go.Proofs.YtlmnpocifldpmaaGreatDoor
namespace Go.Proofs
open Go.Shelf
def Tryz.sortMW_ren : Go.Shelf.Ren := ⟨fun | 14 => 100 | 20 => 163 | 21 => 164 | 22 => 165 | 23 => 166 | 24 => 167 | 25 => 168 | 26 => 169 | 27 => 170 | 46 => 230 | 47 => 231 | 48 => 232 | 49 => 233 | 50 => 234 | 15 => 101 | 57 => 279 | 28 => 171 | 29 => 172 | n => n, fun | 24 => 39 | 22 => 25 | 3 => 3 | 25 => 78 | 4 => 4 | 0 => 0 | 46 => 183 | 45 => 182 | 50 => 187 | 66 => 238 | 39 => 125 | 55 => 151 | 70 => 242 | 76 => 293 | 77 => 294 | 53 => 175 | 5 => 5 | 9 => 9 | n => n, fun | n => n⟩
theorem Tryz.sortMW : Go.Proofs.SlLaysF0.n14 Tryz.prog Tryz.sortMW_ren := {
 mixed := by kernel_rfl
 f14 := ⟨Tryz.f100.name, by decide, Tryz.func100.trans (congrArg some (by kernel_rfl))⟩
 f15 := Tryz.func101.trans (congrArg some (by kernel_rfl))
 f20 := ⟨Tryz.f163.name, by decide, Tryz.func163.trans (congrArg some (by kernel_rfl))⟩
 f21 := ⟨Tryz.f164.name, by decide, Tryz.func164.trans (congrArg some (by kernel_rfl))⟩
 f22 := ⟨Tryz.f165.name, by decide, Tryz.func165.trans (congrArg some (by kernel_rfl))⟩
 f23 := ⟨Tryz.f166.name, by decide, Tryz.func166.trans (congrArg some (by kernel_rfl))⟩
 f24 := ⟨Tryz.f167.name, by decide, Tryz.func167.trans (congrArg some (by kernel_rfl))⟩
 f25 := ⟨Tryz.f168.name, by decide, Tryz.func168.trans (congrArg some (by kernel_rfl))⟩
 f26 := ⟨Tryz.f169.name, by decide, Tryz.func169.trans (congrArg some (by kernel_rfl))⟩
 f27 := ⟨Tryz.f170.name, by decide, Tryz.func170.trans (congrArg some (by kernel_rfl))⟩
 f28 := Tryz.func171.trans (congrArg some (by kernel_rfl))
 f29 := Tryz.func172.trans (congrArg some (by kernel_rfl))
 f46 := ⟨Tryz.f230.name, by decide, Tryz.func230.trans (congrArg some (by kernel_rfl))⟩
 f47 := Tryz.func231.trans (congrArg some (by kernel_rfl))
 f48 := Tryz.func232.trans (congrArg some (by kernel_rfl))
 f49 := ⟨Tryz.f233.name, by decide, Tryz.func233.trans (congrArg some (by kernel_rfl))⟩
 f50 := ⟨Tryz.f234.name, by decide, Tryz.func234.trans (congrArg some (by kernel_rfl))⟩
 f57 := ⟨Tryz.f279.name, by decide, Tryz.func279.trans (congrArg some (by kernel_rfl))⟩
 t0 := Tryz.underlying0
 a0 := Tryz.isAgg0
 z0 := Tryz.sizeOf0
 v0 := Tryz.zeroValue0
 t3 := Tryz.underlying3
 a3 := Tryz.isAgg3
 z3 := Tryz.sizeOf3
 v3 := Tryz.zeroValue3
 t4 := Tryz.underlying4
 a4 := Tryz.isAgg4
 z4 := Tryz.sizeOf4
 v4 := Tryz.zeroValue4
 t5 := Tryz.underlying5
 a5 := Tryz.isAgg5
 z5 := Tryz.sizeOf5
 v5 := Tryz.zeroValue5
 t9 := Tryz.underlying9
 a9 := Tryz.isAgg9
 z9 := Tryz.sizeOf9
 v9 := Tryz.zeroValue9
 t22 := Tryz.underlying25
 a22 := Tryz.isAgg25
 z22 := Tryz.sizeOf25
 v22 := Tryz.zeroValue25
 t25 := Tryz.underlying78
 a25 := Tryz.isAgg78
 z25 := Tryz.sizeOf78
 v25 := Tryz.zeroValue78
 t39 := Tryz.underlying125
 a39 := Tryz.isAgg125
 z39 := Tryz.sizeOf125
 v39 := Tryz.zeroValue125
 t45 := Tryz.underlying182
 a45 := Tryz.isAgg182
 z45 := Tryz.sizeOf182
 v45 := Tryz.zeroValue182
 t46 := Tryz.underlying183
 a46 := Tryz.isAgg183
 z46 := Tryz.sizeOf183
 v46 := Tryz.zeroValue183
 t50 := Tryz.underlying187
 a50 := Tryz.isAgg187
 z50 := Tryz.sizeOf187
 v50 := Tryz.zeroValue187
 t53 := Tryz.underlying175
 a53 := Tryz.isAgg175
 z53 := Tryz.sizeOf175
 v53 := Tryz.zeroValue175
 t55 := Tryz.underlying151
 a55 := Tryz.isAgg151
 z55 := Tryz.sizeOf151
 v55 := Tryz.zeroValue151
 t66 := Tryz.underlying238
 a66 := Tryz.isAgg238
 z66 := Tryz.sizeOf238
 v66 := Tryz.zeroValue238
 t70 := Tryz.underlying242
 a70 := Tryz.isAgg242
 z70 := Tryz.sizeOf242
 v70 := Tryz.zeroValue242
 t76 := Tryz.underlying293
 a76 := Tryz.isAgg293
 z76 := Tryz.sizeOf293
 v76 := Tryz.zeroValue293
 t77 := Tryz.underlying294
 a77 := Tryz.isAgg294
 z77 := Tryz.sizeOf294
 v77 := Tryz.zeroValue294 }
def Tryz.lenW_ren : Go.Shelf.Ren := ⟨fun | 125 => 101 | 128 => 171 | 129 => 172 | n => n, fun | 46 => 125 | 3 => 3 | 51 => 175 | 53 => 151 | 4 => 4 | 5 => 5 | 9 => 9 | n => n, fun | n => n⟩
theorem Tryz.lenW : Go.Proofs.Lays.n125 Tryz.prog Tryz.lenW_ren := {
 mixed := by kernel_rfl
 f125 := Tryz.func101.trans (congrArg some (by kernel_rfl))
 f128 := Tryz.func171.trans (congrArg some (by kernel_rfl))
 f129 := Tryz.func172.trans (congrArg some (by kernel_rfl))
 t3 := Tryz.underlying3
 a3 := Tryz.isAgg3
 z3 := Tryz.sizeOf3
 v3 := Tryz.zeroValue3
 t4 := Tryz.underlying4
 a4 := Tryz.isAgg4
 z4 := Tryz.sizeOf4
 v4 := Tryz.zeroValue4
 t5 := Tryz.underlying5
 a5 := Tryz.isAgg5
 z5 := Tryz.sizeOf5
 v5 := Tryz.zeroValue5
 t9 := Tryz.underlying9
 a9 := Tryz.isAgg9
 z9 := Tryz.sizeOf9
 v9 := Tryz.zeroValue9
 t46 := Tryz.underlying125
 a46 := Tryz.isAgg125
 z46 := Tryz.sizeOf125
 v46 := Tryz.zeroValue125
 t51 := Tryz.underlying175
 a51 := Tryz.isAgg175
 z51 := Tryz.sizeOf175
 v51 := Tryz.zeroValue175
 t53 := Tryz.underlying151
 a53 := Tryz.isAgg151
 z53 := Tryz.sizeOf151
 v53 := Tryz.zeroValue151 }
end Go.Proofs
namespace Go.Proofs.YtlmnpocifldpmaaGreatDoor
open Go.RowKit
open Go.Sort
open Go.Shelf
open Go.Lib
def cmpK (p q : ByteArray × ByteArray) : Int := if keyL p < keyL q then -1 else if keyL q < keyL p then 1 else 0
theorem cmpK_neg (p q : ByteArray × ByteArray) : cmpK p q < 0 ↔ keyL p < keyL q := by
 unfold cmpK
 split
 ·rename_i h; simp [h]
 ·rename_i h
  split <;> simp [h]
def encM (p : ByteArray × ByteArray) : List Value := [.string p.1, .string p.2]
theorem swoM : SWO (ltOf cmpK) where
 irrefl x := by
  simp only [ltOf, decide_eq_false_iff_not, cmpK_neg]
  exact List.lt_irrefl _
 trans x y z h1 h2 := by
  simp only [ltOf, decide_eq_true_eq, cmpK_neg] at *
  exact List.lt_trans h1 h2
 ntrans x y z h1 h2 := by
  simp only [ltOf, decide_eq_false_iff_not, cmpK_neg, List.not_lt] at *
  exact List.le_trans h2 h1
theorem massC_at {L : List (ByteArray × ByteArray)} (i : Nat) : (massC L)[i]? = (L[i / 2]?).map (fun p => if i % 2 = 0 then Value.string p.1 else Value.string p.2) := by
 cases h : L[i / 2]? with
 | none =>
  rw [List.getElem?_eq_none_iff] at h
  rw [Option.map_none, List.getElem?_eq_none_iff, massC_length]
  omega
 | some p =>
  obtain ⟨h1, h2⟩ := massC_get h
  rw [Option.map_some]
  by_cases hm : i % 2 = 0
  ·rw [if_pos hm, show i = 2 * (i / 2) by omega]; exact h1
  ·rw [if_neg hm, show i = 2 * (i / 2) + 1 by omega]; exact h2
theorem flatK_mass (d : Array (ByteArray × ByteArray)) : (flatK encM 2 d).toList = massC d.toList := by
 apply List.ext_getElem?
 intro i
 rw [massC_at]
 by_cases hi : i < d.size * 2
 ·have e1 := get_flatK encM 2 d i (by omega)
  rw [getElem!_pos _ _ (by simp; omega)] at e1
  have hi2 : i / 2 < d.size := by omega
  rw [Array.getElem?_toList, Array.getElem?_eq_getElem (by simp; omega), e1, Array.getElem?_toList, Array.getElem?_eq_getElem hi2, Option.map_some, getElem!_pos d (i / 2) hi2]
  by_cases hm : i % 2 = 0
  ·rw [if_pos hm, hm]; rfl
  ·rw [if_neg hm, show i % 2 = 1 by omega]; rfl
 ·rw [List.getElem?_eq_none (by simp; omega), Array.getElem?_toList, Array.getElem?_eq_none (by omega)]; rfl
theorem heap_sortedK {w : World} {g n : Nat} {os : Array Obj} {cur : Array Value} {e : TypeId} {fr : Nat × Nat} (d : Array Value) (hb : w.heap[g]? = some (.cells cur e fr)) :
 (grow (putRow id (Sort.ahead w n) g 0 d) os).heap[g]? = some (.cells (putCells id 0 d cur) e fr) := by
 have hg : g < w.heap.size := (Array.getElem?_eq_some_iff.1 hb).1
 rw [Go.Sort.heap_grow_old _ _ (by simpa using hg)]
 simp [putRow, mapBlock, Sort.ahead, Array.getElem?_modify, hb, onCells]
theorem below_sortedK {w : World} {g n base : Nat} {os : Array Obj} (d : Array Value) (hb : base ≤ g) (hw : base ≤ w.heap.size) : Below base w (grow (putRow id (Sort.ahead w n) g 0 d) os) := by
 refine ⟨rfl, rfl, rfl, by simp, fun k hk => ?_⟩
 rw [Go.Sort.heap_grow_old _ _ (by simp; omega)]
 have : g ≠ k := by omega
 simp [putRow, mapBlock, Sort.ahead, Array.getElem?_modify, this]
theorem take_putCellsK (cur F : Array Value) (h : F.size ≤ cur.size) : (putCells id 0 F cur).toList.take F.size = F.toList := by
 apply List.ext_getElem?
 intro j
 by_cases hj : j < F.size
 ·rw [List.getElem?_take_of_lt hj, Array.getElem?_toList]
  simp [putCells, hj, show j < cur.size by omega]
 ·rw [List.getElem?_take_eq_none (by omega), List.getElem?_eq_none (by simp; omega)]
theorem permIn_all {d d' : Array (ByteArray × ByteArray)} (h : PermIn 0 d.size d d') : d'.size = d.size ∧ d'.toList.Perm d.toList := by
 obtain ⟨h1, _, h3⟩ := h
 refine ⟨h1, ?_⟩
 have e1 : d'.extract 0 d.size = d' := by rw [← h1]; simp
 have e2 : d.extract 0 d.size = d := by simp
 rwa [e1, e2] at h3
theorem sortedIn_all {d' : Array (ByteArray × ByteArray)} (h : SortedIn (ltOf cmpK) 0 d'.size d') : d'.toList.Pairwise (fun p q => leB (keyL p) (keyL q) = true) := by
 rw [List.pairwise_iff_getElem]
 intro i j hi hj hij
 have := h i j (Nat.zero_le _) hij (by simpa using hj)
 simp only [ltOf, decide_eq_false_iff_not, cmpK_neg, List.not_lt] at this
 rw [getElem!_pos _ _ (by simpa using hi), getElem!_pos _ _ (by simpa using hj)] at this
 simp only [leB, decide_eq_true_eq]
 simpa using this
theorem sorted_is {L M : List (ByteArray × ByteArray)} (hp : L.Perm M) (hs : L.Pairwise (fun p q => leB (keyL p) (keyL q) = true)) (nd : (M.map keyL).Nodup) : L = sortM M := by
 have nd2 : (L.map keyL).Nodup := ((hp.map keyL).nodup_iff).2 nd
 rw [← sortM_same nd2 nd (fun p => hp.mem_iff)]
 exact (List.mergeSort_of_pairwise hs).symm
theorem s_SortM (F : Nat) (g cap base : Nat) (d : Array (ByteArray × ByteArray)) (w : World) (cur : Array Value) (hb : base ≤ g) (hg : w.heap[g]? = some (.cells cur 39 (0, 0))) (h1 : d.size ≤ cap) (h2 : cap ≤ maxLen) (h3 : cur.size = cap * 2) (h4 : cur.toList.take (d.size * 2) = massC d.toList) (hs : d.size ≤ 1000) (hnd : (d.toList.map keyL).Nodup)
 (eg : ∀ args w, (callFunc F args).run Tryz.prog w = .ok (.enter F args) w) (hF : ∀ (x y : ByteArray × ByteArray) (W : World), Calls Tryz.prog F #[.agg #[.string x.1, .string x.2], .agg #[.string y.1, .string y.2]] W fun e w' => e = .returned (.int .i64 (cmpK x y)) ∧ ∃ n os', w' = grow (W.drewN n) os') :
 Calls Tryz.prog 41 #[.slice (some ⟨g, 0, none⟩) d.size cap, .func (.func F) #[] #[]] w fun e w' => e = .returned (.tuple #[]) ∧ w'.ownsRow base 39 2 (.slice (some ⟨g, 0, none⟩) d.size cap) d.size (massC (sortM d.toList)) ∧ Below base w w' := by
 have hblk : g < w.heap.size := (Array.getElem?_eq_some_iff.1 hg).1
 have hH : HoldsK encM 2 w g 0 d := by
  intro j hj
  have hj' : j < d.size * 2 := by simpa using hj
  refine ⟨?_, by simp [World.frozen?, hg]⟩
  have e : (cur.toList.take (d.size * 2))[j]? = (flatK encM 2 d).toList[j]? := by rw [h4, flatK_mass]
  rw [List.getElem?_take_of_lt hj'] at e
  simp only [World.cell?, hg, Nat.zero_add]
  simp only [Option.isSome_none, Bool.false_eq_true, if_false]
  rw [← Array.getElem?_toList, e, Array.getElem?_toList, Array.getElem?_eq_getElem hj, getElem!_pos (flatK encM 2 d) j hj]
  rfl
 have hcmp : CmpLays Tryz.prog F #[] encM 2 cmpK g 0 d.size w := fun _ _ _ _ x y => hF x y _
 have hd : ∀ x : ByteArray × ByteArray, (encM x).length = 2 := fun _ => rfl
 have h1c : ∀ x : ByteArray × ByteArray, ∀ v ∈ encM x, v.oneCell' = true := fun x v hv => by simp [encM] at hv; rcases hv with rfl | rfl <;> rfl
 have hlim : Lib.bitLen d.size < 4611686018427387904 := Nat.lt_of_le_of_lt (Lib.bitLen_le d.size 62 (by omega) (by omega)) (by omega)
 have hpd := AnyQ.pdqsortCmpFunc_all Tryz.sortMW 2 Tryz.isAgg39 Tryz.sizeOf39 encM cmpK F #[] swoM g 0 cap d w eg hcmp ⟨hd, h1c, hH, hblk⟩ (d.size + 1) 0 d.size (Lib.bitLen d.size) d w (by omega) rfl (SWK.start hH) (Nat.zero_le _) (Nat.le_refl _) (by omega) hlim (Or.inl rfl)
 change Calls Tryz.prog 100 _ _ _ at hpd
 have hbl : Calls Tryz.prog 101 #[.int .u64 (d.size : Int)] w fun e w' => e = .returned (.int .i64 (Lib.bitLen d.size : Nat)) ∧ w' = w := by
  have h := Any.bits_Len Tryz.lenW (d.size : Int) w (by omega) (by omega)
  rwa [Int.toNat_natCast] at h
 have wr : IntKind.u64.wrap (d.size : Int) = d.size := by simp [IntKind.wrap, IntKind.bits, IntKind.signed]; omega
 have hz := pdq_sorts (ltOf cmpK) swoM d 0 d.size (Lib.bitLen d.size) true true (Nat.zero_le _) (Nat.le_refl _) (Or.inl rfl)
 have P := permIn_all hz.1
 have hz2 := hz.2
 generalize pdq (ltOf cmpK) d 0 d.size (Lib.bitLen d.size) true true = d' at *
 have S := sortedIn_all (P.1 ▸ hz2)
 have hd' : d'.toList = sortM d.toList := sorted_is P.2 S hnd
 clear hH hcmp hz hz2 hF
 have h2h := hid h2; clear h2
 have h4h := hid h4; clear h4
 have HND := hid hnd; clear hnd
 go_enter Tryz.func41, Tryz.ntmps41
 go_wp2_with fail
 refine hbl.mono ?_; rintro e w' ⟨rfl, rfl⟩
 go_wp2_with fail
 refine hpd.mono ?_; rintro e w' ⟨rfl, n, os, rfl⟩
 go_wp2_with fail
 go_end0
 refine ⟨rfl, ⟨?_, .inr ⟨g, cap, _, rfl, hb, heap_sortedK _ hg, h1, h2h.out, by simp [putCells, h3], ?_⟩⟩, below_sortedK _ hb (by omega)⟩
 ·rw [massC_length, ← hd']; simp [P.1]
 ·rw [← hd', ← flatK_mass]
  have := take_putCellsK cur (flatK encM 2 d') (by rw [size_flatK, P.1, h3]; omega)
  rwa [size_flatK, P.1] at this
end Go.Proofs.YtlmnpocifldpmaaGreatDoor
namespace Go.Proofs.YtlmnpocifldpmaaGreatDoor
open Go.RowKit
open Go.Sort
open Go.Shelf
open Go.Maps
open Go.Lib (decDigits nDigits)
theorem s_ItoaZ (w : World) (v : Int) (h1 : -100000 ≤ v) (h2 : v ≤ 100000) (hL : Lay w) :
 Calls Tryz.prog 38 #[.int .i64 v] w fun e w' => e = .returned (.string (zB v)) ∧ Below w.heap.size w w' := by
 refine (Tryz.strconv_Itoa v (by omega) (by omega) w hL.tab).mono ?_
 rintro e w' ⟨rfl, k, os, rfl⟩
 exact ⟨rfl, below_grow w k os⟩
theorem sameKey_int (v x : Int) : (Lit.int .i64 v).sameKey (.int .i64 x) = decide (v = x) := by
 by_cases h : v = x
 ·subst h
  rw [WideAt.sameKey_self (show WideAt.IsKeyLit (.int .i64 v) from trivial)]; simp
 ·rw [Maps.sameKey_ne (fun e => h (by injection e))]; simp [h]
theorem less_bytes (x z : ByteArray) : Op.bytesLess x.toList z.toList = decide (x.data.toList < z.data.toList) := by
 rw [bytesLess_eq, Lib.toList_data, Lib.toList_data]
theorem s_isNaN (w : World) (x : ByteArray) : Calls Tryz.prog 102 #[.string x] w fun e w' => e = .returned (.bool false) ∧ w = w' := by
 have q1 : (x.toList != x.toList) = false := by simp
 have q2 : (x.toList == x.toList) = true := by simp
 go_enter Tryz.func102, Tryz.ntmps102
 go_wp2_with fail
 go_ret
 exact ⟨rfl, rfl⟩
theorem s_Compare (w : World) (x z : ByteArray) : Calls Tryz.prog 43 #[.string x, .string z] w fun e w' => e = .returned (.int .i64 (if x.data.toList < z.data.toList then -1 else if z.data.toList < x.data.toList then 1 else 0)) ∧ w = w' := by
 have h1 := less_bytes x z
 have h2 := less_bytes z x
 have N1 := fun V => hid (s_isNaN V x)
 have N2 := fun V => hid (s_isNaN V z)
 by_cases c1 : x.data.toList < z.data.toList
 ·rw [if_pos c1]
  rw [decide_eq_true c1] at h1
  clear h2 c1
  go_enter Tryz.func43, Tryz.ntmps43
  go_wp2_with fail
  refine (N1 _).out.mono ?_; rintro e w1 ⟨rfl, rfl⟩
  go_wp2_with fail
  refine (N2 _).out.mono ?_; rintro e w1 ⟨rfl, rfl⟩
  go_wp2_with fail
  go_ret
  exact ⟨rfl, rfl⟩
 ·rw [if_neg c1]
  rw [decide_eq_false c1] at h1
  by_cases c2 : z.data.toList < x.data.toList
  ·rw [if_pos c2]
   rw [decide_eq_true c2] at h2
   have h3 : (x.toList == z.toList) = false := by
    rw [beq_eq_false_iff_ne]
    intro e
    rw [Lib.toList_data, Lib.toList_data] at e
    rw [e] at c2
    exact List.lt_irrefl _ c2
   clear c1 c2
   go_enter Tryz.func43, Tryz.ntmps43
   go_wp2_with fail
   refine (N1 _).out.mono ?_; rintro e w1 ⟨rfl, rfl⟩
   go_wp2_with fail
   refine (N2 _).out.mono ?_; rintro e w1 ⟨rfl, rfl⟩
   go_wp2_with fail
   go_ret
   exact ⟨rfl, rfl⟩
  ·rw [if_neg c2]
   rw [decide_eq_false c2] at h2
   have h3 : (x.toList == z.toList) = true := by
    rw [beq_iff_eq, Lib.toList_data, Lib.toList_data]
    exact List.le_antisymm (List.not_lt.1 c2) (List.not_lt.1 c1)
   clear c1 c2
   go_enter Tryz.func43, Tryz.ntmps43
   go_wp2_with fail
   refine (N1 _).out.mono ?_; rintro e w1 ⟨rfl, rfl⟩
   go_wp2_with fail
   refine (N2 _).out.mono ?_; rintro e w1 ⟨rfl, rfl⟩
   go_wp2_with fail
   go_ret
   exact ⟨rfl, rfl⟩
theorem g_order (p q : ByteArray × ByteArray) (w : World) : Calls Tryz.prog 219 #[.agg #[.string p.1, .string p.2], .agg #[.string q.1, .string q.2]] w fun e w' => e = .returned (.int .i64 (cmpK p q)) ∧ ∃ n os', w' = grow (w.drewN n) os' := by
 obtain ⟨p1, p2⟩ := p
 obtain ⟨q1, q2⟩ := q
 dsimp only
 have HC := fun V => hid (s_Compare V p1 q1)
 unfold cmpK keyL
 dsimp only
 obtain ⟨r, hr⟩ : ∃ r : Int, (if p1.data.toList < q1.data.toList then (-1 : Int) else if q1.data.toList < p1.data.toList then 1 else 0) = r := ⟨_, rfl⟩
 rw [hr] at HC ⊢
 clear hr
 go_enter Tryz.func219, Tryz.ntmps219
 go_wp2_with fail
 refine (HC _).out.mono ?_; rintro e w1 ⟨rfl, rfl⟩
 go_wp2_with fail
 go_ret
 exact ⟨rfl, 0, _, by rw [alloc_eq_grow, alloc_eq_grow, grow_grow]; rfl⟩
end Go.Proofs.YtlmnpocifldpmaaGreatDoor
namespace Go.Proofs.YtlmnpocifldpmaaGreatDoor
open Go.RowKit
open Go.Maps
open Go.Lib (decDigits nDigits)
structure ReadsI {H : Type} (D : DataW H) (c : Int → Nat) : Prop where
 map : IsMap D
 has : ∀ v : Int, Maps.has D (.int .i64 v) = decide (c v ≠ 0)
 look : ∀ v : Int, c v ≠ 0 → ∀ z, D.atKey (.int .i64 v) z = .lit (.string (numB (c v)).data.toList)
theorem ReadsI.nil {H : Type} : ReadsI (.map [] : DataW H) (fun _ => 0) :=
 ⟨isMap_empty, fun v => by simp [Maps.has_eq], fun v h => absurd rfl h⟩
theorem ReadsI.put {H : Type} {D : DataW H} {c : Int → Nat} (h : ReadsI D c) (v : Int) {x : Nat} (hx : 0 < x) :
 ReadsI (D.put (.int .i64 v) (.lit (.string (numB (c v + x)).data.toList))) (addM c v x) := by
 refine ⟨h.map.put _ _, fun y => ?_, fun y hy z => ?_⟩
 ·by_cases e : y = v
  ·subst e
   rw [has_put_same h.map (show WideAt.IsKeyLit (.int .i64 y) from trivial)]
   unfold addM
   rw [if_pos rfl]
   simp; omega
  ·rw [has_put_other (fun e' => e (by injection e')), h.has]
   unfold addM
   rw [if_neg e]
 ·by_cases e : y = v
  ·subst e
   rw [atKey_put_same h.map (show WideAt.IsKeyLit (.int .i64 y) from trivial)]
   unfold addM
   rw [if_pos rfl]
  ·unfold addM at hy ⊢
   rw [if_neg e] at hy ⊢
   rw [atKey_put_other (fun e' => e (by injection e'))]
   exact h.look y hy z
def cellB (x : Nat) : ByteArray := if x = 0 then ⟨#[]⟩ else numB x
theorem look_i {H : Type} {w : World} {B nn : Nat} {D : DataW H} {c : Int → Nat} (hown : w.ownsMap Tryz.prog 3 (plainElem Tryz.prog 22) B nn D) (hR : ReadsI D c) {v : Int} (hw : (Lit.int .i64 v).wf = true) :
 (Instr.lookup 226 (.map (some B)) (.int .i64 v) false).run Tryz.prog w = .ok (.string (cellB (c v))) w := by
 obtain ⟨x, ps, h1, h2⟩ := hown.lookup (int_keyed Tryz.underlying3) Tryz.underlying226 (zero_num w) (plainElem_string Tryz.underlying22 (s := ⟨#[]⟩) (Nat.zero_le _)) (keyOf_int_mk Tryz.underlying3 hw)
 rw [h1]
 unfold cellB
 by_cases h0 : c v = 0
 ·rw [if_pos h0]
  rw [atKey_of_not_has (by rw [hR.has, h0]; rfl)] at h2
  obtain ⟨s, rfl, h3, -⟩ := plainElem_string_inv Tryz.underlying22 h2
  simp only [Prod.mk.injEq, DataW.lit.injEq, Lit.string.injEq] at h3
  have e : s = (⟨#[]⟩ : ByteArray) := ba_ext (by simpa using h3.1.symm)
  rw [e]
 ·rw [if_neg h0]
  rw [hR.look v h0] at h2
  obtain ⟨s, rfl, h3, -⟩ := plainElem_string_inv Tryz.underlying22 h2
  simp only [Prod.mk.injEq, DataW.lit.injEq, Lit.string.injEq] at h3
  rw [ba_ext h3.1]
end Go.Proofs.YtlmnpocifldpmaaGreatDoor
namespace Go.Proofs.YtlmnpocifldpmaaGreatDoor
open Go.RowKit
open Go.Shelf
open Go.Lib (decDigits nDigits)
def rowV (n g : Nat) : Value := .slice (some ⟨g, 0, none⟩) (n + 1) (n + 1)
structure TabR (W : World) (gt n : Nat) (f : Nat → List Nat) : Prop where
 len : ∀ i, i ≤ n → (f i).length = n + 1
 ex : ∃ g c, n + 1 ≤ c ∧ c ≤ 9223372036854775807 ∧ W.cell? ⟨gt, 0, none⟩ = some (.slice (some ⟨g, 0, none⟩) (n + 1) c) ∧ W.cell? ⟨gt, 1, none⟩ = some (.string ⟨#[48]⟩) ∧ ∀ i, i ≤ n → ∃ gr, W.cell? ⟨g, i, none⟩ = some (rowV n gr) ∧ NRowT W gr (f i)
theorem TabR.call {W W' : World} {gt n : Nat} {f : Nat → List Nat} (h : TabR W gt n f) (hb : Below W.heap.size W W') : TabR W' gt n f := by
 obtain ⟨h0, g, c, h1, h2, h3, h4, h5⟩ := h
 refine ⟨h0, g, c, h1, h2, (hb.cell (cell_lt h3)).trans h3, (hb.cell (cell_lt h4)).trans h4, fun i hi => ?_⟩
 obtain ⟨gr, k1, k2⟩ := h5 i hi
 exact ⟨gr, (hb.cell (cell_lt k1)).trans k1, k2.call hb⟩
theorem tb_at (w : World) (gt n i k : Nat) (f : Nat → List Nat) (h : TabR w gt n f) (hi : i ≤ n) (hk : k ≤ n) (hn : n ≤ 100000) :
 Calls Tryz.prog 270 #[.pointer (some ⟨gt, 0, none⟩), .int .i64 (i : Nat), .int .i64 (k : Nat)] w fun e w' => e = .returned (.string (numB ((f i).getD k 0))) ∧ w = w' := by
 obtain ⟨h0, g, c, h1, h2, r0, r1, h5⟩ := h
 obtain ⟨gr, r2, k2⟩ := h5 i hi
 have r3 := k2.cell (i := k) (by rw [h0 i hi]; omega)
 unfold rowV at r2
 obtain ⟨X, hX⟩ : ∃ s, numB ((f i).getD k 0) = s := ⟨_, rfl⟩
 rw [hX] at r3 ⊢
 have b1 : (0 : Int) ≤ (i : Int) := by omega
 have b2 : (i : Int) < ((n + 1 : Nat) : Int) := by omega
 have b3 : (0 : Int) ≤ (k : Int) := by omega
 have b4 : (k : Int) < ((n + 1 : Nat) : Int) := by omega
 obtain ⟨m, hm⟩ : ∃ m, n + 1 = m := ⟨_, rfl⟩
 rw [hm] at r0 r2 b2 b4 h1
 have t1 : decide ((i : Int) < 0) = false := by simp
 have t2 : decide (m ≤ i) = false := by simp; omega
 have t3 : decide ((k : Int) < 0) = false := by simp
 have t4 : decide (m ≤ k) = false := by simp; omega
 clear h0 h5 k2 hX hi hk hn hm
 go_enter Tryz.func270, Tryz.ntmps270
 go_wp2_with fail
 go_ret
 exact ⟨rfl, rfl⟩
structure TabO (W : World) (H gt : Nat) (rv : Value) (gs : List Nat) (n r : Nat) (f : Nat → List Nat) : Prop where
 blk : Blk W gt #[rv, .string ⟨#[48]⟩] 283
 own : W.ownsRow H 71 1 rv gs.length (gs.map (rowV n))
 rows : ∀ i g, i < r → gs[i]? = some g → NRowT W g (f i)
 ne : rv.ownBlock ≠ some gt
 sep : ∀ i g, i < r → gs[i]? = some g → rv.ownBlock ≠ some g
 gne : ∀ i g, i < r → gs[i]? = some g → g ≠ gt
theorem NRowT.lt' {w : World} {g : Nat} {l : List Nat} (h : NRowT w g l) : g < w.heap.size := Blk.lt h
theorem owns_set {W : World} {H : Nat} {e : TypeId} {rv : Value} {n : Nat} {xs : List Value} (h : W.ownsRow H e 1 rv n xs) {a : Addr} (h2 : rv.ownBlock ≠ some a.block) (v : Value) : (W.setCell a v).ownsRow H e 1 rv n xs := by
 refine ⟨h.1, ?_⟩
 rcases h.2 with h0 | ⟨g, cap, cur, rfl, k1, k2, k3⟩
 ·exact .inl h0
 ·refine .inr ⟨g, cap, cur, rfl, k1, ?_, k3⟩
  have hg : g ≠ a.block := fun e => h2 (by rw [← e]; rfl)
  rw [← k2]
  unfold World.setCell
  simp [Array.getElem?_modify, Ne.symm hg]
theorem TabO.call {W W' : World} {H gt : Nat} {rv : Value} {gs : List Nat} {n r : Nat} {f : Nat → List Nat} (h : TabO W H gt rv gs n r f) (hb : Below W.heap.size W W') : TabO W' H gt rv gs n r f :=
 ⟨h.blk.call hb, owns_call h.own hb, fun i g hi hg => (h.rows i g hi hg).call hb, h.ne, h.sep, h.gne⟩
theorem TabO.other {W : World} {H gt : Nat} {rv : Value} {gs : List Nat} {n r : Nat} {f : Nat → List Nat} (h : TabO W H gt rv gs n r f) {a : Addr} (h1 : a.block ≠ gt) (h2 : rv.ownBlock ≠ some a.block) (h3 : ∀ i g, i < r → gs[i]? = some g → a.block ≠ g) (v : Value) : TabO (W.setCell a v) H gt rv gs n r f := by
 exact ⟨h.blk.other h1 v, owns_set h.own h2 v, fun i g hi hg => (h.rows i g hi hg).other (h3 i g hi hg) v, h.ne, h.sep, h.gne⟩
structure KpR (gt : Nat) (rb : Option Nat) (W W' : World) : Prop where
 os : W'.os = W.os
 tape : W'.tape = W.tape
 output : W'.output = W.output
 size : W.heap.size ≤ W'.heap.size
 block : ∀ i, i < W.heap.size → i ≠ gt → some i ≠ rb → W'.heap[i]? = W.heap[i]?
theorem TabO.drew {W : World} {H gt : Nat} {rv : Value} {gs : List Nat} {n r : Nat} {f : Nat → List Nat} (h : TabO W H gt rv gs n r f) : TabO W.drew H gt rv gs n r f := ⟨h.blk, h.own, h.rows, h.ne, h.sep, h.gne⟩
theorem KpR.drew {gt : Nat} {rb : Option Nat} {W W' : World} (h : KpR gt rb W W') : KpR gt rb W W'.drew := ⟨h.os, h.tape, h.output, h.size, h.block⟩
theorem info_nums : (Tryz.prog.info? 71).map (fun i => (i.zero, i.size, i.bytes)) = some (some (.slice none 0 0), 1, 24) := by kernel_rfl
theorem tb_row (w : World) (H gt : Nat) (rv : Value) (gs : List Nat) (n r : Nat) (f : Nat → List Nat) (h : TabO w H gt rv gs n r f) (hr : r ≤ gs.length) (hgs : gs.length ≤ 1000) (hn : n ≤ 1000) (hH : H ≤ w.heap.size) :
 Calls Tryz.prog 294 #[.pointer (some ⟨gt, 0, none⟩), .int .i64 ((n + 1 : Nat) : Int)] w fun e w' => ∃ g rv', e = .returned (rowV n g) ∧ w.heap.size ≤ g ∧ NRowT w' g (List.replicate (n + 1) 0) ∧ TabO w' H gt rv' (gs ++ [g]) n r f ∧ rv'.ownBlock ≠ some g ∧ (rv'.ownBlock = rv.ownBlock ∨ ∃ b, rv'.ownBlock = some b ∧ w.heap.size ≤ b) ∧ KpR gt rv.ownBlock w w' := by
 obtain ⟨i0, hi, hz0, hz1, hz2⟩ := info_parts info_nums
 have HR := fun V g h => hid (s_Repeat V g (n + 1) ⟨#[48]⟩ (by omega) (by omega) h)
 have hgt : gt < w.heap.size := h.blk.lt
 have r0 := h.blk.cell 0
 have r1 := h.blk.cell 1
 simp at r0 r1
 have T0 := hid h
 have HGT := hid hgt; have HHS := hid hH; have HGS := hid hgs; have HRL := hid hr
 obtain ⟨ar, cr, hrv⟩ := owns_ex h.own
 obtain ⟨L, hL⟩ : ∃ L, gs.length = L := ⟨_, rfl⟩
 have HLL := hid hL
 obtain ⟨m, hm⟩ : ∃ m, n + 1 = m := ⟨_, rfl⟩
 have HM := hid hm
 have KK : Hid (∀ W, Below w.heap.size w W → W.cell? ⟨gt, 0, none⟩ = some rv ∧ W.cell? ⟨gt, 1, none⟩ = some (.string ⟨#[48]⟩)) := fun W hW => ⟨(hW.cell (cell_lt r0)).trans r0, (hW.cell (cell_lt r1)).trans r1⟩
 rw [hm] at HR ⊢
 have HRV := hid hrv
 clear h hgt hH hgs hr hL hm hrv hn
 go_enter Tryz.func294, Tryz.ntmps294
 go_wp2_with fail
 refine held_lasts 14 3 [0, 1, 2, 3, 4, 5, 6, 7, 8, 10] 4 (fun W' => W'.cell? ⟨gt, 0, none⟩ = some rv ∧ W'.cell? ⟨gt, 1, none⟩ = some (.string ⟨#[48]⟩)) (by kernel_rfl) rfl (by kernel_rfl) (by kernel_rfl) (by kernel_rfl) (by kernel_rfl) (KK.out _ (Below.refl _ _).drew) ?_
 iterate 10
  refine ⟨_, rfl, ?_⟩
  apply Exists.intro
  refine ⟨.inl ⟨by rfl, ?_⟩, ?_⟩
  ·(intro W' hW'; obtain ⟨q1, q2⟩ := hW'; go_simp; try (with_reducible rfl))
  (dsimp only [Act.put]; try simp only [List.setIfInBounds_toArray, List.set_cons_zero, List.set_cons_succ])
 refine held_one (i := 9) (by kernel_rfl) (by rfl) (by rfl) ?_
 go_wp2_with fail
 have A1 := hid (show Below w.heap.size w (w.alloc (.cells #[.string ⟨#[48]⟩] 22)).drew from ((Below.refl _ _).alloc (Nat.le_refl _) _).drew)
 have C1 : (w.alloc (.cells #[.string ⟨#[48]⟩] 22)).drew.cell? ⟨w.heap.size, 0, none⟩ = some (.string ⟨#[48]⟩) := (Blk.new w #[.string ⟨#[48]⟩] 22).cell 0
 refine ⟨KK.out _ A1.out, ?_⟩
 refine held_one (i := 11) (by kernel_rfl) (by rfl) (by rfl) ?_
 go_wp2_with fail
 refine (HR _ _ C1).out.mono ?_; rintro e w2 ⟨rfl, hg, hb⟩
 obtain ⟨g, hgg⟩ : ∃ g, (w.alloc (.cells #[.string ⟨#[48]⟩] 22)).drew.heap.size = g := ⟨_, rfl⟩
 have B2 := hid (bnext A1.out hb)
 rw [hgg] at hg ⊢
 have HG : Hid (w.heap.size < g) := by rw [← hgg]; show _ < _; simp
 have R2 := hid (NRowT.zeros hg)
 have L2 := hid (show g < w2.heap.size from hg.lt)
 clear hg hb hgg C1
 go_wp2_with fail
 refine ⟨KK.out _ B2.out, ?_⟩
 refine held_one (i := 12) (by kernel_rfl) (by rfl) (by rfl) ?_
 go_wp2_with fail
 have A3 := hid (show Below w.heap.size w (w2.alloc (.cells #[.slice (some ⟨g, 0, none⟩) m m] 71)) from B2.out.alloc B2.out.size _)
 refine ⟨KK.out _ A3.out, ?_⟩
 refine held_one (i := 13) (by kernel_rfl) (by rfl) (by rfl) ?_
 have O3 := hid (((T0.out.call B2.out).own).alloc (.cells #[.slice (some ⟨g, 0, none⟩) m m] 71))
 refine wpList_append_own_at _ rfl _ _ 281 rfl H 71 i0 (.slice none 0 0) 1 24 Tryz.underlying281 hi hz0 hz1 hz2 rfl (by decide) rv gs.length (gs.map (rowV n)) rfl O3.out ⟨w2.heap.size, 0, none⟩ 1 1 [.slice (some ⟨g, 0, none⟩) m m] rfl rfl (cell_one_new w2 (.slice (some ⟨g, 0, none⟩) m m) 71) (by simp [Value.oneCell']) (by have := HGS.out; unfold maxLen; omega) (by have := HGS.out; omega) (by have := HHS.out; have := B2.out.size; simp; omega) ?_
 intro rv' w3 hown3 hgrow3 _ hat3
 have hat4 : rv'.ownBlock = rv.ownBlock ∨ rv'.ownBlock = some (w2.heap.size + 1) := by simpa using hat3
 have OW := hid hown3; have GR := hid hgrow3; have AT := hid hat4
 clear hown3 hgrow3 hat3 hat4
 have c30 : w3.cell? ⟨gt, 0, none⟩ = some rv := by
  have := GR.out.cell (KK.out _ A3.out).1 (fun e => T0.out.ne e.symm)
  exact this
 have c31 : w3.cell? ⟨gt, 1, none⟩ = some (.string ⟨#[48]⟩) := GR.out.cell (KK.out _ A3.out).2 (fun e => T0.out.ne e.symm)
 have X3 : Hid (Blk w3 gt #[rv, .string ⟨#[48]⟩] 283) := ((T0.out.blk.call B2.out).alloc _).grown GR.out (fun e => T0.out.ne e)
 go_wp2_with fail
 refine ⟨⟨c30, c31⟩, ?_⟩
 refine wpAnyH_done (by kernel_rfl) ?_ _
 simp only [Only, ThenL, List.drop_succ_cons, List.drop_zero]
 have f3 := X3.out.free 0
 have NE3 : Hid (rv'.ownBlock ≠ some gt) := by
  rcases AT.out with e | e
  ·show rv'.ownBlock ≠ some gt
   rw [e]; exact T0.out.ne
  ·show rv'.ownBlock ≠ some gt
   rw [e]; intro hh; have := Option.some.inj hh; have := HGT.out; have := B2.out.size; omega
 have NEG : Hid (rv'.ownBlock ≠ some g) := by
  rcases AT.out with e | e
  ·show rv'.ownBlock ≠ some g
   rw [e]; intro hh; have := (T0.out.own.lt g hh).2; have := HG.out; omega
  ·show rv'.ownBlock ≠ some g
   rw [e]; intro hh; have := Option.some.inj hh; have := L2.out; omega
 have AT2 : Hid (rv'.ownBlock = rv.ownBlock ∨ ∃ b, rv'.ownBlock = some b ∧ w.heap.size ≤ b) := AT.out.imp id fun e => ⟨_, e, Nat.le_succ_of_le B2.out.size⟩
 have KP : Hid (KpR gt rv.ownBlock w w3) := ⟨GR.out.os.trans A3.out.os, GR.out.tape.trans A3.out.tape, GR.out.output.trans A3.out.output, Nat.le_trans A3.out.size GR.out.size, fun i hi _ h2 => (GR.out.block i (by have := A3.out.size; omega) h2).trans (A3.out.block i hi)⟩
 have N3 : Hid (NRowT w3 g (List.replicate m 0)) := Blk.grown (Blk.alloc R2.out _) GR.out (fun e => by have := (T0.out.own.lt g e).2; have := HG.out; omega)
 have RO : Hid (∀ i g', i < r → gs[i]? = some g' → NRowT w3 g' (f i)) := fun i g' hi2 hg' => Blk.grown (Blk.alloc ((T0.out.rows i g' hi2 hg').call B2.out) _) GR.out (T0.out.sep i g' hi2 hg')
 have GSR : Hid (∀ i g', i < r → gs[i]? = some g' → g' ≠ gt) := fun i g' hi2 hg' => T0.out.gne i g' hi2 hg'
 obtain ⟨gr, cap, rfl⟩ := ownsRow_succ OW.out
 have HGR : Hid (gr ≠ gt) := fun e => NE3.out (by rw [e]; rfl)
 go_wp2_with fail
 try simp only [Only]
 obtain ⟨w4, hw4⟩ : ∃ W, w3.setCell ⟨gt, 0, none⟩ (.slice (some ⟨gr, 0, none⟩) (gs.length + 1) cap) = W := ⟨_, rfl⟩
 have T4 : Hid (TabO w4 H gt (.slice (some ⟨gr, 0, none⟩) (gs.length + 1) cap) (gs ++ [g]) n r f) := by
  refine ⟨?_, ?_, fun i g' hi2 hg' => ?_, NE3.out, ?_, ?_⟩
  ·rw [← hw4]; exact X3.out.set 0 _
  ·rw [← hw4, List.length_append, List.map_append]
   have hl : (gs.map (rowV n) ++ [Value.slice (some ⟨g, 0, none⟩) m m]) = gs.map (rowV n) ++ [g].map (rowV n) := by rw [← HM.out]; rfl
   rw [← hl]
   exact owns_set OW.out (fun e => HGR.out (by simpa [Value.ownBlock] using e)) _
  ·have hlt : i < gs.length := Nat.lt_of_lt_of_le hi2 HRL.out
   rw [List.getElem?_append_left hlt] at hg'
   rw [← hw4]
   exact (RO.out i g' hi2 hg').other (GSR.out i g' hi2 hg').symm _
  ·intro i g' hi2 hg'
   have hlt : i < gs.length := Nat.lt_of_lt_of_le hi2 HRL.out
   rw [List.getElem?_append_left hlt] at hg'
   rcases AT.out with e | e
   ·rw [e]; exact T0.out.sep i g' hi2 hg'
   ·rw [e]; intro hh; have := Option.some.inj hh; have := (T0.out.rows i g' hi2 hg').lt'; have := B2.out.size; omega
  ·intro i g' hi2 hg'
   have hlt : i < gs.length := Nat.lt_of_lt_of_le hi2 HRL.out
   rw [List.getElem?_append_left hlt] at hg'
   exact T0.out.gne i g' hi2 hg'
 have N4 : Hid (NRowT w4 g (List.replicate m 0)) := by rw [← hw4]; exact N3.out.other (by have := HG.out; have := HGT.out; show gt ≠ g; omega) _
 have K4 : Hid (KpR gt rv.ownBlock w w4) := by
  rw [← hw4]
  refine ⟨KP.out.os, KP.out.tape, KP.out.output, by simpa [World.setCell] using KP.out.size, fun i hi h1 h2 => ?_⟩
  rw [← KP.out.block i hi h1 h2]
  unfold World.setCell
  simp [Array.getElem?_modify, Ne.symm h1]
 rw [hw4]
 have s0 := T4.out.blk.cell 0
 simp at s0
 have s1 : w4.cell? ⟨gr, gs.length, none⟩ = some (.slice (some ⟨g, 0, none⟩) m m) := by
  obtain ⟨g', o', e1, -, e2⟩ := (Row.of_owns T4.out.own).at (i := gs.length) (x := rowV n g) (by rw [List.map_append, List.getElem?_append_right (by simp)]; simp)
  simp only [Option.some.injEq, Addr.mk.injEq] at e1
  obtain ⟨rfl, rfl, -⟩ := e1
  rw [Nat.zero_add] at e2
  rw [e2, rowV, HM.out]
 have wl : IntKind.i64.wrap (((gs.length + 1 : Nat) : Int) - 1) = (gs.length : Int) := by rw [IntWalk.i64_in _ ⟨by omega, by have := HGS.out; omega⟩]; omega
 have wl2 : IntKind.i64.wrap ((gs.length : Int) + 1 - 1) = (gs.length : Int) := by rw [IntWalk.i64_in _ ⟨by omega, by have := HGS.out; omega⟩]; omega
 have b1 : (0 : Int) ≤ (gs.length : Int) := by omega
 have b2 : (gs.length : Int) < ((gs.length + 1 : Nat) : Int) := by omega
 have wl3 : IntKind.i64.wrap (gs.length : Int) = (gs.length : Int) := by rw [IntWalk.i64_in _ ⟨by omega, by have := HGS.out; omega⟩]
 have b3 : (gs.length : Int) < (gs.length : Int) + 1 := by omega
 clear hw4 c30 c31 f3
 refine held_plain [0, 1, 2, 3, 4, 5, 6, 7, 8, 9, 10, 11, 12] 0 (fun W' => W'.cell? ⟨gt, 0, none⟩ = some (.slice (some ⟨gr, 0, none⟩) (gs.length + 1) cap) ∧ W'.cell? ⟨gr, gs.length, none⟩ = some (.slice (some ⟨g, 0, none⟩) m m)) (by kernel_rfl) (by kernel_rfl) (by kernel_rfl) (by kernel_rfl) ⟨s0, s1⟩ ?_
 iterate 13
  refine ⟨_, rfl, ?_⟩
  apply Exists.intro
  refine ⟨.inl ⟨by rfl, ?_⟩, ?_⟩
  ·(intro W' hW'; obtain ⟨q3, q4⟩ := hW'; go_simp; try (with_reducible rfl))
  (dsimp only [Act.put]; try simp only [List.setIfInBounds_toArray, List.set_cons_zero, List.set_cons_succ])
 refine wpAnyH_done (by kernel_rfl) ?_ _
 simp only [Only]
 go_wp2_with fail
 go_ret
 refine ⟨g, _, by rw [rowV, HM.out]; rfl, Nat.le_of_lt HG.out, N4.out, T4.out.drew, NEG.out, AT2.out, K4.out.drew⟩
end Go.Proofs.YtlmnpocifldpmaaGreatDoor
