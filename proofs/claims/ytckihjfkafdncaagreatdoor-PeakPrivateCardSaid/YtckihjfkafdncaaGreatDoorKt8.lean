/- Texts that the proof rests on, merged: Fr2, Fr4, Rt4, Rt5, Rt6, Rt7, Gn1, Cr0, Lr0, Fx0, Fn0, Sh6, Sm, Gd0, Gl0, Tb, En, Gl1. -/
import Derived.Test.YtckihjfkafdncaaGreatDoorKt7
import Derived.Shelf.SlSortCmp.WholeK
import Derived.Shelf.SlGeneric
import Derived.Shelf.Small.Bits
import Derived.Ground.SlsfProg
import Derived.Ground.NamesProg
import Derived.Test.YtckihjfkafdncaaGreatDoorProg
import Derived.Sort.OwnSortedInts
import Derived.WalkLawsBesides
import Derived.Sort.Walk0
import Derived.Maps.AppendAt
import Derived.RangeFuncBox
set_option linter.unusedVariables false
set_option linter.unusedSimpArgs false
set_option linter.unusedSectionVars false
set_option maxRecDepth 100000
set_option maxHeartbeats 8000000
namespace Go.Proofs.YtckihjfkafdncaaGreatDoor
open Go.RowKit
def twoF (b : Nat) (m1 m2 : Bool) (n1 d1 n2 d2 : Value) (w : World) : Prop :=
 w.cell? ⟨b, 0, none⟩ = some (.bool m1) ∧ w.cell? ⟨b, 1, none⟩ = some n1 ∧ w.cell? ⟨b, 2, none⟩ = some d1 ∧ w.cell? ⟨b + 1, 0, none⟩ = some (.bool m2) ∧ w.cell? ⟨b + 1, 1, none⟩ = some n2 ∧ w.cell? ⟨b + 1, 2, none⟩ = some d2
structure Three (w W : World) (m1 m2 : Bool) (n1 d1 n2 d2 : Value) : Prop where
 below : Below w.heap.size w W
 size : W.heap.size = w.heap.size + 3
 b0 : Blk W w.heap.size #[.bool m1, n1, d1] 133
 b1 : Blk W (w.heap.size + 1) #[.bool m2, n2, d2] 133
 b2 : Blk W (w.heap.size + 1 + 1) #[.bool false, .slice none 0 0, .slice none 0 0] 133
theorem Three.mk' {w W : World} {m1 m2 : Bool} {n1 d1 n2 d2 : Value} (h : ((w.alloc (.cells #[.bool m1, n1, d1] 133)).alloc (.cells #[.bool m2, n2, d2] 133)).alloc (.cells #[.bool false, .slice none 0 0, .slice none 0 0] 133) = W) : Three w W m1 m2 n1 d1 n2 d2 := by
 subst h
 exact ⟨(((Below.refl _ _).alloc (Nat.le_refl _) _).alloc (by simp) _).alloc (by simp; omega) _, by simp, ((Blk.new w _ _).alloc _).alloc _, (Blk.made (w.alloc _) _ _ (by simp)).alloc _, Blk.made ((w.alloc _).alloc _) _ _ (by simp)⟩
theorem Three.cells {w W V : World} {m1 m2 : Bool} {n1 d1 n2 d2 : Value} (h : Three w W m1 m2 n1 d1 n2 d2) (hb : Below W.heap.size W V) : twoF w.heap.size m1 m2 n1 d1 n2 d2 V :=
 have y0 := h.b0.call hb
 have y1 := h.b1.call hb
 ⟨y0.cell 0, y0.cell 1, y0.cell 2, y1.cell 0, y1.cell 1, y1.cell 2⟩
theorem Three.stored {w W V : World} {m1 m2 : Bool} {n1 d1 n2 d2 : Value} (h : Three w W m1 m2 n1 d1 n2 d2) (hb : Below W.heap.size W V) (x y z : Value) : twoF w.heap.size m1 m2 n1 d1 n2 d2 (((V.setCell ⟨w.heap.size + 1 + 1, 0, none⟩ x).setCell ⟨w.heap.size + 1 + 1, 1, none⟩ y).setCell ⟨w.heap.size + 1 + 1, 2, none⟩ z) :=
 have y0 := ((((h.b0.call hb).other (a := ⟨w.heap.size + 1 + 1, 0, none⟩) (by simp; omega) x).other (a := ⟨w.heap.size + 1 + 1, 1, none⟩) (by simp; omega) y).other (a := ⟨w.heap.size + 1 + 1, 2, none⟩) (by simp; omega) z)
 have y1 := ((((h.b1.call hb).other (a := ⟨w.heap.size + 1 + 1, 0, none⟩) (by simp) x).other (a := ⟨w.heap.size + 1 + 1, 1, none⟩) (by simp) y).other (a := ⟨w.heap.size + 1 + 1, 2, none⟩) (by simp) z)
 ⟨y0.cell 0, y0.cell 1, y0.cell 2, y1.cell 0, y1.cell 1, y1.cell 2⟩
theorem f_Mul (w : World) (v u : Value) (p q : Rat) (hp : IsQ .u64 w v p) (hq : IsQ .u64 w u q)
 (h1 : (limbs p.num.natAbs).length ≤ 100000) (h2 : (limbs p.den).length ≤ 100000) (h3 : (limbs q.num.natAbs).length ≤ 100000) (h4 : (limbs q.den).length ≤ 100000) :
 Calls Tryz.prog 133 #[v, u] w fun e w' => RetQ .u64 (p * q) e w' ∧ Below w.heap.size w w' := by
 have hq0 := qmk_mul p q
 obtain ⟨Q, hQ⟩ : ∃ Q, p * q = Q := ⟨_, rfl⟩
 rw [hQ] at hq0 ⊢
 have hD := hid (Nat.mul_pos p.den_pos q.den_pos)
 obtain ⟨N1, D1, rfl, hn1, hd1⟩ := hp.ex
 obtain ⟨N2, D2, rfl, hn2, hd2⟩ := hq.ex
 clear hp hq hQ
 generalize decide (p.num < 0) = m1 at *
 generalize decide (q.num < 0) = m2 at *
 generalize p.num.natAbs = n1 at *
 generalize q.num.natAbs = n2 at *
 generalize p.den = d1 at *
 generalize q.den = d2 at *
 have HQ := hid hq0
 clear hq0
 have HN1 := hid hn1; have HD1 := hid hd1; have HN2 := hid hn2; have HD2 := hid hd2
 have L1 := hid (Nat.le_trans (len_mul h1 h3) (show 100000 + 100000 ≤ 1000000 by omega))
 have L2 := hid (Nat.le_trans (len_mul h2 h4) (show 100000 + 100000 ≤ 1000000 by omega))
 have H1 := hid (Nat.le_trans h1 (show 100000 ≤ 1000000 by omega))
 have H2 := hid (Nat.le_trans h2 (show 100000 ≤ 1000000 by omega))
 have H3 := hid (Nat.le_trans h3 (show 100000 ≤ 1000000 by omega))
 have H4 := hid (Nat.le_trans h4 (show 100000 ≤ 1000000 by omega))
 clear h1 h2 h3 h4
 obtain ⟨a1, c1, rfl, _⟩ := hn1.openI
 obtain ⟨a2, c2, rfl, _⟩ := hd1.openI
 obtain ⟨a3, c3, rfl, _⟩ := hn2.openI
 obtain ⟨a4, c4, rfl, _⟩ := hd2.openI
 clear hn1 hd1 hn2 hd2
 go_enter Tryz.func133, Tryz.ntmps133
 go_wp2_with fail
 obtain ⟨W, hW⟩ : ∃ W, ((w.alloc (.cells #[.bool m1, .slice a1 (limbs n1).length c1, .slice a2 (limbs d1).length c2] 133)).alloc (.cells #[.bool m2, .slice a3 (limbs n2).length c3, .slice a4 (limbs d2).length c4] 133)).alloc (.cells #[.bool false, .slice none 0 0, .slice none 0 0] 133) = W := ⟨_, rfl⟩
 have T := hid (Three.mk' hW)
 rw [hW]
 clear hW
 have hS := T.out.cells (Below.refl _ _).drew
 have B0 := hid (T.out.below.drew)
 have C0 := hid ((Below.refl W.heap.size W).drew)
 refine held_plain [0, 1, 2, 3, 4, 5, 6, 7, 8, 10, 11, 12, 13] 4 (twoF w.heap.size m1 m2 (.slice a1 (limbs n1).length c1) (.slice a2 (limbs d1).length c2) (.slice a3 (limbs n2).length c3) (.slice a4 (limbs d2).length c4)) (by kernel_rfl) (by kernel_rfl) (by kernel_rfl) (by kernel_rfl) hS ?_
 iterate 13
  refine ⟨_, rfl, ?_⟩
  apply Exists.intro
  refine ⟨.inl ⟨by rfl, ?_⟩, ?_⟩
  ·(intro W' hW'; obtain ⟨q1, q2, q3, q4, q5, q6⟩ := hW'; go_simp; try (with_reducible rfl))
  (dsimp only [Act.put]; try simp only [List.setIfInBounds_toArray, List.set_cons_zero, List.set_cons_succ])
 clear hS
 refine held_one (i := 9) (by kernel_rfl) (by rfl) (by rfl) ?_
 go_wp2_with fail
 refine (l_Mul _ _ _ n1 n2 (HN1.out.call B0.out) (HN2.out.call B0.out) H1.out H3.out).mono ?_; rintro e w1 ⟨⟨v1, rfl, hv1⟩, hb1⟩
 have B1 := hid (B0.out.trans (hb1.mono B0.out.size)); have C1 := hid (bnext C0.out hb1); have V1 := hid hv1
 clear hb1 hv1
 go_wp2_with fail
 refine ⟨T.out.cells C1.out, ?_⟩
 refine held_one (i := 14) (by kernel_rfl) (by rfl) (by rfl) ?_
 go_wp2_with fail
 refine (l_Mul _ _ _ d1 d2 (HD1.out.call B1.out) (HD2.out.call B1.out) H2.out H4.out).mono ?_; rintro e w2 ⟨⟨v2, rfl, hv2⟩, hb2⟩
 have B2 := hid (B1.out.trans (hb2.mono B1.out.size)); have C2 := hid (bnext C1.out hb2); have V2 := hid hv2; have W1 := hid (V1.out.call hb2)
 clear hb2 hv2
 go_wp2_with fail
 refine ⟨T.out.cells C2.out, ?_⟩
 refine held_one (i := 15) (by kernel_rfl) (by rfl) (by rfl) ?_
 go_wp2_with fail
 refine (f_Make _ _ _ _ (n1 * n2) (d1 * d2) W1.out V2.out hD.out L1.out L2.out).mono ?_; rintro e w3 ⟨⟨v3, rfl, hv3⟩, hb3⟩
 have hbn : (!(m1 == m2)) = (m1 != m2) := rfl
 rw [hbn, HQ.out] at hv3
 clear hbn
 have B3 := hid (B2.out.trans (hb3.mono B2.out.size)); have C3 := hid (bnext C2.out hb3)
 clear hb3
 obtain ⟨N3, D3, rfl, hN3, hD3⟩ := hv3.ex
 obtain ⟨a5, c5, rfl, _⟩ := hN3.openI
 obtain ⟨a6, c6, rfl, _⟩ := hD3.openI
 obtain ⟨k5, hk5⟩ : ∃ k, (limbs Q.num.natAbs).length = k := ⟨_, rfl⟩
 obtain ⟨k6, hk6⟩ : ∃ k, (limbs Q.den).length = k := ⟨_, rfl⟩
 obtain ⟨mq, hmq⟩ : ∃ m, decide (Q.num < 0) = m := ⟨_, rfl⟩
 rw [hk5] at hN3 ⊢
 rw [hk6] at hD3 ⊢
 rw [hmq]
 have HN3 := hid hN3; have HD3 := hid hD3; have HMQ := hid hmq
 have Z := hid (T.out.b2.call C3.out)
 have t0 := Z.out.cell 0
 have t1 := Z.out.cell 1
 have t2 := Z.out.cell 2
 have t3 := Z.out.free 0
 have t4 := Z.out.free 1
 have t5 := Z.out.free 2
 simp at t0 t1 t2
 clear hv3 hN3 hD3 hk5 hk6 hmq
 go_wp2_with fail
 refine ⟨T.out.cells C3.out, ?_⟩
 refine held_one (i := 16) (by kernel_rfl) (by rfl) (by rfl) ?_
 go_wp2_with fail
 refine ⟨T.out.stored C3.out _ _ _, ?_⟩
 refine wpAnyH_done (by kernel_rfl) ?_ _
 simp only [Only]
 obtain ⟨s1, s2⟩ := set3 Z.out mq a5 a6 k5 c5 k6 c6
 have f0 := s2.cell 0
 have f1 := s2.cell 1
 have f2 := s2.cell 2
 simp at f0 f1 f2
 clear t0 t1 t2 t3 t4 t5
 go_wp2_with fail
 refine bodyPost_ret (v := .agg #[.bool mq, .slice a5 k5 c5, .slice a6 k6 c6]) (by simp [results, Tryz.results133, go_sem, f0, f1, f2]) rfl ⟨⟨_, rfl, ⟨.slice a5 k5 c5, .slice a6 k6 c6, by rw [HMQ.out], s1 _ _ _ HN3.out, s1 _ _ _ HD3.out⟩⟩, ?_⟩
 exact ((B3.out.setCell (by simp; omega) _).setCell (by simp; omega) _).setCell (by simp; omega) _
theorem q_add_same {p q : Rat} {m : Bool} (h1 : decide (p.num < 0) = m) (h2 : decide (q.num < 0) = m) : qmk m (p.num.natAbs * q.den + q.num.natAbs * p.den) (p.den * q.den) = p + q := by
 rw [q_add, h1, h2, sgn_same]; rfl
theorem q_add_less {p q : Rat} {m1 m2 : Bool} (h1 : decide (p.num < 0) = m1) (h2 : decide (q.num < 0) = m2) (h : m1 ≠ m2) (hl : p.num.natAbs * q.den < q.num.natAbs * p.den) : qmk m2 (q.num.natAbs * p.den - p.num.natAbs * q.den) (p.den * q.den) = p + q := by
 rw [q_add, h1, h2, sgn_less h hl]; rfl
theorem q_add_more {p q : Rat} {m1 m2 : Bool} (h1 : decide (p.num < 0) = m1) (h2 : decide (q.num < 0) = m2) (h : m1 ≠ m2) (hl : q.num.natAbs * p.den ≤ p.num.natAbs * q.den) : qmk m1 (p.num.natAbs * q.den - q.num.natAbs * p.den) (p.den * q.den) = p + q := by
 rw [q_add, h1, h2, sgn_more h hl]; rfl
theorem f_Add (w : World) (v u : Value) (p q : Rat) (hp : IsQ .u64 w v p) (hq : IsQ .u64 w u q)
 (h1 : (limbs p.num.natAbs).length ≤ 100000) (h2 : (limbs p.den).length ≤ 100000) (h3 : (limbs q.num.natAbs).length ≤ 100000) (h4 : (limbs q.den).length ≤ 100000) :
 Calls Tryz.prog 135 #[v, u] w fun e w' => RetQ .u64 (p + q) e w' ∧ Below w.heap.size w w' := by
 obtain ⟨m1, hm1⟩ : ∃ m, decide (p.num < 0) = m := ⟨_, rfl⟩
 obtain ⟨m2, hm2⟩ : ∃ m, decide (q.num < 0) = m := ⟨_, rfl⟩
 have s1 := fun (e : m1 = m2) => q_add_same (m := m1) hm1 (hm2.trans e.symm)
 have s2 := q_add_less hm1 hm2
 have s3 := q_add_more hm1 hm2
 obtain ⟨Q, hQ⟩ : ∃ Q, p + q = Q := ⟨_, rfl⟩
 rw [hQ] at s1 s2 s3 ⊢
 have hD := hid (Nat.mul_pos p.den_pos q.den_pos)
 obtain ⟨N1, D1, rfl, hn1, hd1⟩ := hp.ex
 obtain ⟨N2, D2, rfl, hn2, hd2⟩ := hq.ex
 rw [hm1, hm2]
 clear hp hq hQ hm1 hm2
 generalize p.num.natAbs = n1 at *
 generalize q.num.natAbs = n2 at *
 generalize p.den = d1 at *
 generalize q.den = d2 at *
 have S1 := hid s1; have S2 := hid s2; have S3 := hid s3
 have HN1 := hid hn1; have HD1 := hid hd1; have HN2 := hid hn2; have HD2 := hid hd2
 have lx := len_mul h1 h4
 have ly := len_mul h3 h2
 have ld := len_mul h2 h4
 have LX := hid (Nat.le_trans lx (show 100000 + 100000 ≤ 200000 by omega)); have LY := hid (Nat.le_trans ly (show 100000 + 100000 ≤ 200000 by omega)); have LD := hid (Nat.le_trans ld (show 100000 + 100000 ≤ 1000000 by omega))
 have LXY := hid (Nat.le_trans (len_add lx ly) (show 100000 + 100000 + (100000 + 100000) + 1 ≤ 1000000 by omega))
 have H1 := hid (Nat.le_trans h1 (show 100000 ≤ 1000000 by omega))
 have H2 := hid (Nat.le_trans h2 (show 100000 ≤ 1000000 by omega))
 have H3 := hid (Nat.le_trans h3 (show 100000 ≤ 1000000 by omega))
 have H4 := hid (Nat.le_trans h4 (show 100000 ≤ 1000000 by omega))
 clear h1 h2 h3 h4 lx ly ld s1 s2 s3
 obtain ⟨a1, c1, rfl, _⟩ := hn1.openI
 obtain ⟨a2, c2, rfl, _⟩ := hd1.openI
 obtain ⟨a3, c3, rfl, _⟩ := hn2.openI
 obtain ⟨a4, c4, rfl, _⟩ := hd2.openI
 clear hn1 hd1 hn2 hd2
 go_enter Tryz.func135, Tryz.ntmps135
 go_wp2_with fail
 obtain ⟨W, hW⟩ : ∃ W, ((w.alloc (.cells #[.bool m1, .slice a1 (limbs n1).length c1, .slice a2 (limbs d1).length c2] 133)).alloc (.cells #[.bool m2, .slice a3 (limbs n2).length c3, .slice a4 (limbs d2).length c4] 133)).alloc (.cells #[.bool false, .slice none 0 0, .slice none 0 0] 133) = W := ⟨_, rfl⟩
 have T := hid (Three.mk' hW)
 rw [hW]
 clear hW
 have hS := T.out.cells (Below.refl _ _).drew
 have B0 := hid (T.out.below.drew)
 have C0 := hid ((Below.refl W.heap.size W).drew)
 refine held_plain [0, 1, 2, 3, 5, 6, 7, 8] 4 (twoF w.heap.size m1 m2 (.slice a1 (limbs n1).length c1) (.slice a2 (limbs d1).length c2) (.slice a3 (limbs n2).length c3) (.slice a4 (limbs d2).length c4)) (by kernel_rfl) (by kernel_rfl) (by kernel_rfl) (by kernel_rfl) hS ?_
 iterate 8
  refine ⟨_, rfl, ?_⟩
  apply Exists.intro
  refine ⟨.inl ⟨by rfl, ?_⟩, ?_⟩
  ·(intro W' hW'; obtain ⟨q1, q2, q3, q4, q5, q6⟩ := hW'; go_simp; try (with_reducible rfl))
  (dsimp only [Act.put]; try simp only [List.setIfInBounds_toArray, List.set_cons_zero, List.set_cons_succ])
 clear hS
 refine held_one (i := 4) (by kernel_rfl) (by rfl) (by rfl) ?_
 go_wp2_with fail
 refine (l_Mul _ _ _ n1 d2 (HN1.out.call B0.out) (HD2.out.call B0.out) H1.out H4.out).mono ?_; rintro e w1 ⟨⟨v1, rfl, hv1⟩, hb1⟩
 have B1 := hid (B0.out.trans (hb1.mono B0.out.size)); have C1 := hid (bnext C0.out hb1); have V1 := hid hv1
 clear hb1 hv1
 go_wp2_with fail
 refine ⟨T.out.cells C1.out, ?_⟩
 refine held_one (i := 9) (by kernel_rfl) (by rfl) (by rfl) ?_
 go_wp2_with fail
 refine (l_Mul _ _ _ n2 d1 (HN2.out.call B1.out) (HD1.out.call B1.out) H3.out H2.out).mono ?_; rintro e w2 ⟨⟨v2, rfl, hv2⟩, hb2⟩
 have B2 := hid (B1.out.trans (hb2.mono B1.out.size)); have C2 := hid (bnext C1.out hb2); have V2 := hid hv2; have W1 := hid (V1.out.call hb2)
 clear hb2 hv2
 go_wp2_with fail
 refine ⟨T.out.cells C2.out, ?_⟩
 refine held_more (is := [10, 11]) (g := 0) (by kernel_rfl) rfl (T.out.cells C2.out) (by kernel_rfl) ?_
 iterate 2
  refine ⟨_, rfl, ?_⟩
  apply Exists.intro
  refine ⟨.inl ⟨by rfl, ?_⟩, ?_⟩
  ·(intro W' hW'; clear hW'; go_simp; try (with_reducible rfl))
  (dsimp only [Act.put]; try simp only [List.setIfInBounds_toArray, List.set_cons_zero, List.set_cons_succ])
 refine wpAnyH_done (by kernel_rfl) ?_ _
 simp only [Only]
 obtain ⟨k0, k1, k2, k3, k4, k5⟩ := T.out.cells C2.out
 go_wp2_with fail
 refine (l_Mul _ _ _ d1 d2 (HD1.out.call B2.out) (HD2.out.call B2.out) H2.out H4.out).mono ?_; rintro e w3 ⟨⟨v3, rfl, hv3⟩, hb3⟩
 have B3 := hid (B2.out.trans (hb3.mono B2.out.size)); have C3 := hid (bnext C2.out hb3); have V3 := hid hv3; have X1 := hid (W1.out.call hb3); have X2 := hid (V2.out.call hb3)
 clear hb3 hv3 k0 k1 k2 k3 k4 k5
 go_wp2_with fail
 refine (l_Cmp _ _ _ (n1 * d2) (n2 * d1) X1.out X2.out (Nat.le_trans LX.out (by omega))).mono ?_; rintro e w4 ⟨rfl, hb4⟩
 have B4 := hid (B3.out.trans (hb4.mono B3.out.size)); have C4 := hid (bnext C3.out hb4); have V4 := hid (V3.out.call hb4); have Y1 := hid (X1.out.call hb4); have Y2 := hid (X2.out.call hb4)
 clear hb4
 obtain ⟨k0, k1, k2, k3, k4, k5⟩ := T.out.cells C4.out
 clear B0 B1 B2 B3 C0 C1 C2 C3 V1 V2 V3 W1 X1 X2
 obtain ⟨X, hX⟩ : ∃ X, n1 * d2 = X := ⟨_, rfl⟩
 obtain ⟨Y, hY⟩ : ∃ X, n2 * d1 = X := ⟨_, rfl⟩
 obtain ⟨E, hE⟩ : ∃ X, d1 * d2 = X := ⟨_, rfl⟩
 rw [hX] at S1 S2 S3 LX LXY Y1 ⊢
 rw [hY] at S1 S2 S3 LY LXY Y2 ⊢
 rw [hE] at S1 S2 S3 LD V4 hD
 clear hX hY hE
 by_cases em : m1 = m2
 ·have SA := hid (S1.out em)
  subst em
  have q0 : (m1 == m1) = true := beq_self_eq_true m1
  go_wp2_with fail
  have hS := T.out.cells C4.out.drew
  have B0 := hid B4.out.drew
  have C0 := hid C4.out.drew
  refine held_plain [0, 1, 2, 3, 5] 3 (twoF w.heap.size m1 m1 (.slice a1 (limbs n1).length c1) (.slice a2 (limbs d1).length c2) (.slice a3 (limbs n2).length c3) (.slice a4 (limbs d2).length c4)) (by kernel_rfl) (by kernel_rfl) (by kernel_rfl) (by kernel_rfl) hS ?_
  iterate 5
   refine ⟨_, rfl, ?_⟩
   apply Exists.intro
   refine ⟨.inl ⟨by rfl, ?_⟩, ?_⟩
   ·(intro W' hW'; obtain ⟨q1, q2, q3, q4, q5, q6⟩ := hW'; go_simp; try (with_reducible rfl))
   (dsimp only [Act.put]; try simp only [List.setIfInBounds_toArray, List.set_cons_zero, List.set_cons_succ])
  clear hS
  refine held_one (i := 4) (by kernel_rfl) (by rfl) (by rfl) ?_
  go_wp2_with fail
  refine (l_Add _ _ _ X Y (Y1.out.call (Below.refl _ _).drew) (Y2.out.call (Below.refl _ _).drew) (Nat.le_trans LX.out (by omega)) (Nat.le_trans LY.out (by omega))).mono ?_; rintro e w5 ⟨⟨v5, rfl, hv5⟩, hb5⟩
  have B5 := hid (B0.out.trans (hb5.mono B0.out.size)); have C5 := hid (C0.out.trans (hb5.mono C0.out.size)); have V5 := hid hv5; have E5 := hid (V4.out.call (show Below w4.heap.size w4 w5 from (Below.refl _ _).drew.trans hb5))
  clear hb5 hv5
  go_wp2_with fail
  refine ⟨T.out.cells C5.out, ?_⟩
  refine held_one (i := 6) (by kernel_rfl) (by rfl) (by rfl) ?_
  go_wp2_with fail
  refine (f_Make _ _ _ _ (X + Y) E V5.out E5.out hD.out (LXY.out) LD.out).mono ?_; rintro e w6 ⟨⟨v3, rfl, hv3⟩, hb6⟩
  rw [SA.out] at hv3
  have B6 := hid (B5.out.trans (hb6.mono B5.out.size)); have C6 := hid (C5.out.trans (hb6.mono C5.out.size))
  clear hb6
  obtain ⟨N3, D3, rfl, hN3, hD3⟩ := hv3.ex
  obtain ⟨a5, c5, rfl, _⟩ := hN3.openI
  obtain ⟨a6, c6, rfl, _⟩ := hD3.openI
  obtain ⟨k5, hk5⟩ : ∃ k, (limbs Q.num.natAbs).length = k := ⟨_, rfl⟩
  obtain ⟨k6, hk6⟩ : ∃ k, (limbs Q.den).length = k := ⟨_, rfl⟩
  obtain ⟨mq, hmq⟩ : ∃ m, decide (Q.num < 0) = m := ⟨_, rfl⟩
  rw [hk5] at hN3 ⊢
  rw [hk6] at hD3 ⊢
  rw [hmq]
  have HN3 := hid hN3; have HD3 := hid hD3; have HMQ := hid hmq
  have Z := hid (T.out.b2.call C6.out)
  have t0 := Z.out.cell 0
  have t1 := Z.out.cell 1
  have t2 := Z.out.cell 2
  have t3 := Z.out.free 0
  have t4 := Z.out.free 1
  have t5 := Z.out.free 2
  simp at t0 t1 t2
  clear hv3 hN3 hD3 hk5 hk6 hmq
  go_wp2_with fail
  refine ⟨T.out.cells C6.out, ?_⟩
  refine held_one (i := 7) (by kernel_rfl) (by rfl) (by rfl) ?_
  go_wp2_with fail
  refine ⟨T.out.stored C6.out _ _ _, ?_⟩
  refine wpAnyH_done (by kernel_rfl) ?_ _
  simp only [Only]
  obtain ⟨s1, s2⟩ := set3 Z.out mq a5 a6 k5 c5 k6 c6
  have f0 := s2.cell 0
  have f1 := s2.cell 1
  have f2 := s2.cell 2
  simp at f0 f1 f2
  clear t0 t1 t2 t3 t4 t5
  go_wp2_with fail
  refine bodyPost_ret (v := .agg #[.bool mq, .slice a5 k5 c5, .slice a6 k6 c6]) (by simp [results, Tryz.results135, go_sem, f0, f1, f2]) rfl ⟨⟨_, rfl, ⟨.slice a5 k5 c5, .slice a6 k6 c6, by rw [HMQ.out], s1 _ _ _ HN3.out, s1 _ _ _ HD3.out⟩⟩, ?_⟩
  exact ((B6.out.setCell (by simp; omega) _).setCell (by simp; omega) _).setCell (by simp; omega) _
 ·have q0 : (m1 == m2) = false := by simpa using em
  have HE := hid em
  clear em
  by_cases hc : X < Y
  ·have HC := hid hc
   rw [ordN_lt hc]
   clear hc
   go_wp2_with fail
   have hS := T.out.cells C4.out.drew
   have B0 := hid B4.out.drew
   have C0 := hid C4.out.drew
   refine held_plain [0, 1, 2, 3, 5] 3 (twoF w.heap.size m1 m2 (.slice a1 (limbs n1).length c1) (.slice a2 (limbs d1).length c2) (.slice a3 (limbs n2).length c3) (.slice a4 (limbs d2).length c4)) (by kernel_rfl) (by kernel_rfl) (by kernel_rfl) (by kernel_rfl) hS ?_
   iterate 5
    refine ⟨_, rfl, ?_⟩
    apply Exists.intro
    refine ⟨.inl ⟨by rfl, ?_⟩, ?_⟩
    ·(intro W' hW'; obtain ⟨q1, q2, q3, q4, q5, q6⟩ := hW'; go_simp; try (with_reducible rfl))
    (dsimp only [Act.put]; try simp only [List.setIfInBounds_toArray, List.set_cons_zero, List.set_cons_succ])
   clear hS
   refine held_one (i := 4) (by kernel_rfl) (by rfl) (by rfl) ?_
   go_wp2_with fail
   refine (l_Sub _ _ _ Y X (Y2.out.call (Below.refl _ _).drew) (Y1.out.call (Below.refl _ _).drew) (Nat.le_of_lt HC.out) (Nat.le_trans LY.out (by omega))).mono ?_; rintro e w5 ⟨⟨v5, rfl, hv5⟩, hb5⟩
   have B5 := hid (B0.out.trans (hb5.mono B0.out.size)); have C5 := hid (C0.out.trans (hb5.mono C0.out.size)); have V5 := hid hv5; have E5 := hid (V4.out.call (show Below w4.heap.size w4 w5 from (Below.refl _ _).drew.trans hb5))
   clear hb5 hv5
   go_wp2_with fail
   refine ⟨T.out.cells C5.out, ?_⟩
   refine held_one (i := 6) (by kernel_rfl) (by rfl) (by rfl) ?_
   go_wp2_with fail
   refine (f_Make _ _ _ _ (Y - X) E V5.out E5.out hD.out (Nat.le_trans (limbs_length_mono (Nat.sub_le Y X)) (Nat.le_trans LY.out (by omega))) LD.out).mono ?_; rintro e w6 ⟨⟨v3, rfl, hv3⟩, hb6⟩
   rw [S2.out HE.out HC.out] at hv3
   have B6 := hid (B5.out.trans (hb6.mono B5.out.size)); have C6 := hid (C5.out.trans (hb6.mono C5.out.size))
   clear hb6
   obtain ⟨N3, D3, rfl, hN3, hD3⟩ := hv3.ex
   obtain ⟨a5, c5, rfl, _⟩ := hN3.openI
   obtain ⟨a6, c6, rfl, _⟩ := hD3.openI
   obtain ⟨k5, hk5⟩ : ∃ k, (limbs Q.num.natAbs).length = k := ⟨_, rfl⟩
   obtain ⟨k6, hk6⟩ : ∃ k, (limbs Q.den).length = k := ⟨_, rfl⟩
   obtain ⟨mq, hmq⟩ : ∃ m, decide (Q.num < 0) = m := ⟨_, rfl⟩
   rw [hk5] at hN3 ⊢
   rw [hk6] at hD3 ⊢
   rw [hmq]
   have HN3 := hid hN3; have HD3 := hid hD3; have HMQ := hid hmq
   have Z := hid (T.out.b2.call C6.out)
   have t0 := Z.out.cell 0
   have t1 := Z.out.cell 1
   have t2 := Z.out.cell 2
   have t3 := Z.out.free 0
   have t4 := Z.out.free 1
   have t5 := Z.out.free 2
   simp at t0 t1 t2
   clear hv3 hN3 hD3 hk5 hk6 hmq
   go_wp2_with fail
   refine ⟨T.out.cells C6.out, ?_⟩
   refine held_one (i := 7) (by kernel_rfl) (by rfl) (by rfl) ?_
   go_wp2_with fail
   refine ⟨T.out.stored C6.out _ _ _, ?_⟩
   refine wpAnyH_done (by kernel_rfl) ?_ _
   simp only [Only]
   obtain ⟨s1, s2⟩ := set3 Z.out mq a5 a6 k5 c5 k6 c6
   have f0 := s2.cell 0
   have f1 := s2.cell 1
   have f2 := s2.cell 2
   simp at f0 f1 f2
   clear t0 t1 t2 t3 t4 t5
   go_wp2_with fail
   refine bodyPost_ret (v := .agg #[.bool mq, .slice a5 k5 c5, .slice a6 k6 c6]) (by simp [results, Tryz.results135, go_sem, f0, f1, f2]) rfl ⟨⟨_, rfl, ⟨.slice a5 k5 c5, .slice a6 k6 c6, by rw [HMQ.out], s1 _ _ _ HN3.out, s1 _ _ _ HD3.out⟩⟩, ?_⟩
   exact ((B6.out.setCell (by simp; omega) _).setCell (by simp; omega) _).setCell (by simp; omega) _
  ·have HC := hid (show Y ≤ X by omega)
   have q1 : decide (ordN X Y < 0) = false := by
    rcases Nat.lt_or_ge Y X with h | h
    ·rw [ordN_gt h]; rfl
    ·rw [show X = Y by omega, ordN_eq]; rfl
   clear hc
   go_wp2_with fail
   have hS := T.out.cells C4.out.drew
   have B0 := hid B4.out.drew
   have C0 := hid C4.out.drew
   refine held_plain [0, 1, 2, 3, 5] 3 (twoF w.heap.size m1 m2 (.slice a1 (limbs n1).length c1) (.slice a2 (limbs d1).length c2) (.slice a3 (limbs n2).length c3) (.slice a4 (limbs d2).length c4)) (by kernel_rfl) (by kernel_rfl) (by kernel_rfl) (by kernel_rfl) hS ?_
   iterate 5
    refine ⟨_, rfl, ?_⟩
    apply Exists.intro
    refine ⟨.inl ⟨by rfl, ?_⟩, ?_⟩
    ·(intro W' hW'; obtain ⟨q1, q2, q3, q4, q5, q6⟩ := hW'; go_simp; try (with_reducible rfl))
    (dsimp only [Act.put]; try simp only [List.setIfInBounds_toArray, List.set_cons_zero, List.set_cons_succ])
   clear hS
   refine held_one (i := 4) (by kernel_rfl) (by rfl) (by rfl) ?_
   go_wp2_with fail
   refine (l_Sub _ _ _ X Y (Y1.out.call (Below.refl _ _).drew) (Y2.out.call (Below.refl _ _).drew) HC.out (Nat.le_trans LX.out (by omega))).mono ?_; rintro e w5 ⟨⟨v5, rfl, hv5⟩, hb5⟩
   have B5 := hid (B0.out.trans (hb5.mono B0.out.size)); have C5 := hid (C0.out.trans (hb5.mono C0.out.size)); have V5 := hid hv5; have E5 := hid (V4.out.call (show Below w4.heap.size w4 w5 from (Below.refl _ _).drew.trans hb5))
   clear hb5 hv5
   go_wp2_with fail
   refine ⟨T.out.cells C5.out, ?_⟩
   refine held_one (i := 6) (by kernel_rfl) (by rfl) (by rfl) ?_
   go_wp2_with fail
   refine (f_Make _ _ _ _ (X - Y) E V5.out E5.out hD.out (Nat.le_trans (limbs_length_mono (Nat.sub_le X Y)) (Nat.le_trans LX.out (by omega))) LD.out).mono ?_; rintro e w6 ⟨⟨v3, rfl, hv3⟩, hb6⟩
   rw [S3.out HE.out HC.out] at hv3
   have B6 := hid (B5.out.trans (hb6.mono B5.out.size)); have C6 := hid (C5.out.trans (hb6.mono C5.out.size))
   clear hb6
   obtain ⟨N3, D3, rfl, hN3, hD3⟩ := hv3.ex
   obtain ⟨a5, c5, rfl, _⟩ := hN3.openI
   obtain ⟨a6, c6, rfl, _⟩ := hD3.openI
   obtain ⟨k5, hk5⟩ : ∃ k, (limbs Q.num.natAbs).length = k := ⟨_, rfl⟩
   obtain ⟨k6, hk6⟩ : ∃ k, (limbs Q.den).length = k := ⟨_, rfl⟩
   obtain ⟨mq, hmq⟩ : ∃ m, decide (Q.num < 0) = m := ⟨_, rfl⟩
   rw [hk5] at hN3 ⊢
   rw [hk6] at hD3 ⊢
   rw [hmq]
   have HN3 := hid hN3; have HD3 := hid hD3; have HMQ := hid hmq
   have Z := hid (T.out.b2.call C6.out)
   have t0 := Z.out.cell 0
   have t1 := Z.out.cell 1
   have t2 := Z.out.cell 2
   have t3 := Z.out.free 0
   have t4 := Z.out.free 1
   have t5 := Z.out.free 2
   simp at t0 t1 t2
   clear hv3 hN3 hD3 hk5 hk6 hmq
   go_wp2_with fail
   refine ⟨T.out.cells C6.out, ?_⟩
   refine held_one (i := 7) (by kernel_rfl) (by rfl) (by rfl) ?_
   go_wp2_with fail
   refine ⟨T.out.stored C6.out _ _ _, ?_⟩
   refine wpAnyH_done (by kernel_rfl) ?_ _
   simp only [Only]
   obtain ⟨s1, s2⟩ := set3 Z.out mq a5 a6 k5 c5 k6 c6
   have f0 := s2.cell 0
   have f1 := s2.cell 1
   have f2 := s2.cell 2
   simp at f0 f1 f2
   clear t0 t1 t2 t3 t4 t5
   go_wp2_with fail
   refine bodyPost_ret (v := .agg #[.bool mq, .slice a5 k5 c5, .slice a6 k6 c6]) (by simp [results, Tryz.results135, go_sem, f0, f1, f2]) rfl ⟨⟨_, rfl, ⟨.slice a5 k5 c5, .slice a6 k6 c6, by rw [HMQ.out], s1 _ _ _ HN3.out, s1 _ _ _ HD3.out⟩⟩, ?_⟩
   exact ((B6.out.setCell (by simp; omega) _).setCell (by simp; omega) _).setCell (by simp; omega) _
theorem f_Sub (w : World) (v u : Value) (p q : Rat) (hp : IsQ .u64 w v p) (hq : IsQ .u64 w u q)
 (h1 : (limbs p.num.natAbs).length ≤ 100000) (h2 : (limbs p.den).length ≤ 100000) (h3 : (limbs q.num.natAbs).length ≤ 100000) (h4 : (limbs q.den).length ≤ 100000) :
 Calls Tryz.prog 138 #[v, u] w fun e w' => RetQ .u64 (p - q) e w' ∧ Below w.heap.size w w' := by
 have e1 : p + -q = p - q := (Rat.sub_eq_add_neg p q).symm
 have F1 := fun V v h => hid (f_Neg V v q h)
 have F2 := fun V v u hv hu => hid (f_Add V v u p (-q) hv hu h1 h2 (by rw [Rat.neg_num, Int.natAbs_neg]; exact h3) (by rw [Rat.neg_den]; exact h4))
 rw [e1] at F2
 obtain ⟨Q, hQ⟩ : ∃ Q, p - q = Q := ⟨_, rfl⟩
 rw [hQ] at F2 ⊢
 have HP := hid hp; have HQ' := hid hq
 obtain ⟨N1, D1, rfl, hn1, hd1⟩ := hp.ex
 obtain ⟨N2, D2, rfl, hn2, hd2⟩ := hq.ex
 obtain ⟨a1, c1, rfl, _⟩ := hn1.openI
 obtain ⟨a2, c2, rfl, _⟩ := hd1.openI
 obtain ⟨a3, c3, rfl, _⟩ := hn2.openI
 obtain ⟨a4, c4, rfl, _⟩ := hd2.openI
 clear hp hq hQ e1 hn1 hd1 hn2 hd2 h1 h2 h3 h4
 obtain ⟨m1, hm1⟩ : ∃ m, decide (p.num < 0) = m := ⟨_, rfl⟩
 obtain ⟨m2, hm2⟩ : ∃ m, decide (q.num < 0) = m := ⟨_, rfl⟩
 obtain ⟨l1, hl1⟩ : ∃ m, (limbs p.num.natAbs).length = m := ⟨_, rfl⟩
 obtain ⟨l2, hl2⟩ : ∃ m, (limbs p.den).length = m := ⟨_, rfl⟩
 obtain ⟨l3, hl3⟩ : ∃ m, (limbs q.num.natAbs).length = m := ⟨_, rfl⟩
 obtain ⟨l4, hl4⟩ : ∃ m, (limbs q.den).length = m := ⟨_, rfl⟩
 rw [hm1, hl1, hl2] at HP
 rw [hm2, hl3, hl4] at HQ'
 rw [hm1, hm2, hl1, hl2, hl3, hl4]
 clear hm1 hm2 hl1 hl2 hl3 hl4
 go_enter Tryz.func138, Tryz.ntmps138
 go_wp2_with fail
 obtain ⟨W, hW⟩ : ∃ W, ((w.alloc (.cells #[.bool m1, .slice a1 l1 c1, .slice a2 l2 c2] 133)).alloc (.cells #[.bool m2, .slice a3 l3 c3, .slice a4 l4 c4] 133)).alloc (.cells #[.bool false, .slice none 0 0, .slice none 0 0] 133) = W := ⟨_, rfl⟩
 have T := hid (Three.mk' hW)
 rw [hW]
 clear hW
 have hS := T.out.cells (Below.refl _ _).drew
 have B0 := hid (T.out.below.drew)
 have C0 := hid ((Below.refl W.heap.size W).drew)
 refine held_plain [0, 1] 3 (twoF w.heap.size m1 m2 (.slice a1 l1 c1) (.slice a2 l2 c2) (.slice a3 l3 c3) (.slice a4 l4 c4)) (by kernel_rfl) (by kernel_rfl) (by kernel_rfl) (by kernel_rfl) hS ?_
 iterate 2
  refine ⟨_, rfl, ?_⟩
  apply Exists.intro
  refine ⟨.inl ⟨by rfl, ?_⟩, ?_⟩
  ·(intro W' hW'; obtain ⟨q1, q2, q3, q4, q5, q6⟩ := hW'; go_simp; try (with_reducible rfl))
  (dsimp only [Act.put]; try simp only [List.setIfInBounds_toArray, List.set_cons_zero, List.set_cons_succ])
 clear hS
 refine held_one (i := 2) (by kernel_rfl) (by rfl) (by rfl) ?_
 go_wp2_with fail
 refine (F1 _ _ (HQ'.out.call B0.out)).out.mono ?_; rintro e w1 ⟨⟨v1, rfl, hv1⟩, hb1⟩
 have B1 := hid (B0.out.trans (hb1.mono B0.out.size)); have C1 := hid (bnext C0.out hb1); have V1 := hid hv1
 clear hb1 hv1
 go_wp2_with fail
 refine ⟨T.out.cells C1.out, ?_⟩
 refine held_one (i := 3) (by kernel_rfl) (by rfl) (by rfl) ?_
 go_wp2_with fail
 refine (F2 _ _ _ (HP.out.call B1.out) V1.out).out.mono ?_; rintro e w3 ⟨⟨v3, rfl, hv3⟩, hb3⟩
 have B3 := hid (B1.out.trans (hb3.mono B1.out.size)); have C3 := hid (bnext C1.out hb3)
 clear hb3
 obtain ⟨N3, D3, rfl, hN3, hD3⟩ := hv3.ex
 obtain ⟨a5, c5, rfl, _⟩ := hN3.openI
 obtain ⟨a6, c6, rfl, _⟩ := hD3.openI
 obtain ⟨k5, hk5⟩ : ∃ k, (limbs Q.num.natAbs).length = k := ⟨_, rfl⟩
 obtain ⟨k6, hk6⟩ : ∃ k, (limbs Q.den).length = k := ⟨_, rfl⟩
 obtain ⟨mq, hmq⟩ : ∃ m, decide (Q.num < 0) = m := ⟨_, rfl⟩
 rw [hk5] at hN3 ⊢
 rw [hk6] at hD3 ⊢
 rw [hmq]
 have HN3 := hid hN3; have HD3 := hid hD3; have HMQ := hid hmq
 have Z := hid (T.out.b2.call C3.out)
 have t0 := Z.out.cell 0
 have t1 := Z.out.cell 1
 have t2 := Z.out.cell 2
 have t3 := Z.out.free 0
 have t4 := Z.out.free 1
 have t5 := Z.out.free 2
 simp at t0 t1 t2
 clear hv3 hN3 hD3 hk5 hk6 hmq
 go_wp2_with fail
 refine ⟨T.out.cells C3.out, ?_⟩
 refine held_one (i := 4) (by kernel_rfl) (by rfl) (by rfl) ?_
 go_wp2_with fail
 refine ⟨T.out.stored C3.out _ _ _, ?_⟩
 refine wpAnyH_done (by kernel_rfl) ?_ _
 simp only [Only]
 obtain ⟨s1, s2⟩ := set3 Z.out mq a5 a6 k5 c5 k6 c6
 have f0 := s2.cell 0
 have f1 := s2.cell 1
 have f2 := s2.cell 2
 simp at f0 f1 f2
 clear t0 t1 t2 t3 t4 t5
 go_wp2_with fail
 refine bodyPost_ret (v := .agg #[.bool mq, .slice a5 k5 c5, .slice a6 k6 c6]) (by simp [results, Tryz.results138, go_sem, f0, f1, f2]) rfl ⟨⟨_, rfl, ⟨.slice a5 k5 c5, .slice a6 k6 c6, by rw [HMQ.out], s1 _ _ _ HN3.out, s1 _ _ _ HD3.out⟩⟩, ?_⟩
 exact ((B3.out.setCell (by simp; omega) _).setCell (by simp; omega) _).setCell (by simp; omega) _
open Go.Shelf
open Go.Lib (decDigits nDigits)
theorem q_both (w : World) (s t : ByteArray) (F : Nat) (R : ByteArray) (x : Int) (hs : s.size ≤ 1000000) (ht : t.size ≤ 1000000) (hL : Lay w)
 (hen : ∀ args w, (callFunc F args).run Tryz.prog w = .ok (.enter F args) w)
 (hF : ∀ W v u, qE s = 0 → qE t = 0 → IsQ .u64 W v (vQ s) → IsQ .u64 W u (vQ t) → Lay W → Calls Tryz.prog F #[v, u] W fun e w' => e = .returned (.tuple #[.string R, .int .i64 x]) ∧ Below W.heap.size W w') :
 Calls Tryz.prog 131 #[.string s, .string t, .func (.func F) #[] #[]] w fun e w' => e = .returned (.tuple #[.string (tB R s t), .int .i64 (tE x s t)]) ∧ Below w.heap.size w w' := by
 have HF := hid hF
 have HL := hid hL
 have HEN := hid hen
 have HT := hid ht
 have b1 := hid ((Below.refl w.heap.size w).alloc (Nat.le_refl _) (.cells #[.string t] 22))
 obtain ⟨w1, hw1⟩ : ∃ w1, w.alloc (.cells #[.string t] 22) = w1 := ⟨_, rfl⟩
 obtain ⟨g1, hg1⟩ : ∃ g, w.heap.size = g := ⟨_, rfl⟩
 have X1 := hid (Blk.new w #[.string t] 22)
 rw [hw1] at b1
 rw [hw1, hg1] at X1
 have b2 := hid ((Below.refl w1.heap.size w1).alloc (Nat.le_refl _) (.cells #[.func (.func F) #[] #[]] 159))
 obtain ⟨w2, hw2⟩ : ∃ w2, w1.alloc (.cells #[.func (.func F) #[] #[]] 159) = w2 := ⟨_, rfl⟩
 have X2 := hid (Blk.new w1 #[.func (.func F) #[] #[]] 159)
 have X12 := hid (X1.out.call b2.out)
 have y2 := hid (bnext b1.out b2.out)
 have hg2 : w1.heap.size = g1 + 1 := by rw [← hw1, ← hg1]; simp
 rw [hw2] at b2 X12 y2
 rw [hw2, hg2] at X2
 have L2 := hid (HL.out.call y2.out)
 have W2 := hid (q_with w2 s 189 #[.pointer (some ⟨g1, 0, none⟩), .pointer (some ⟨g1 + 1, 0, none⟩)] (wB R t) (wE x t) hs L2.out (enters_of Tryz.func189 (by kernel_rfl) rfl)
  (fun W v hq hb hv hLW => by
   have hX1 := (X12.out.call hb).cell 0
   have hX2 := (X2.out.call hb).cell 0
   exact q_both1 W v t (vQ s) F g1 (g1 + 1) R x HT.out hv hLW HEN.out hX1 hX2 (fun W v u h0 h1 h2 h3 => HF.out W v u hq h0 h1 h2 h3)))
 have HW1 := hid hw1; have HW2 := hid hw2; have HG1 := hid hg1
 clear hF hL hen hs ht hw1 hw2 hg1 hg2 b1
 go_enter Tryz.func131, Tryz.ntmps131
 go_wp2_with fail
 have hw1 := HW1.out; have hw2 := HW2.out; have hg1 := HG1.out
 rw [hw1, hg1, hw2]
 refine W2.out.mono ?_; rintro e w3 ⟨rfl, hb3⟩
 have y3 := hid (bnext y2.out hb3)
 clear hb3 hw1 hw2 hg1
 go_wp2_with fail
 go_ret2
 exact ⟨rfl, by have := y3.out; exact this⟩
structure Sml (K : Nat) (q : Rat) : Prop where
 n : (limbs q.num.natAbs).length ≤ K
 d : (limbs q.den).length ≤ K
theorem sml_vQ {s : ByteArray} (h : qE s = 0) : Sml 1000 (vQ s) := by
 obtain ⟨-, e2, e3⟩ := vQ_ok h
 obtain ⟨-, -, -, l1, l2, -⟩ := valid h
 exact ⟨by rw [e2]; exact Nat.le_trans (limbs_of_digits l1) (by omega), by rw [e3]; exact Nat.le_trans (limbs_of_digits l2) (by omega)⟩
theorem Sml.up {K L : Nat} {q : Rat} (h : Sml K q) (hl : K ≤ L) : Sml L q := ⟨Nat.le_trans h.n hl, Nat.le_trans h.d hl⟩
theorem sml_neg {K : Nat} {q : Rat} (h : Sml K q) : Sml K (-q) := ⟨by rw [Rat.neg_num, Int.natAbs_neg]; exact h.n, by rw [Rat.neg_den]; exact h.d⟩
theorem sml_mk {K : Nat} {z : Int} {d : Nat} (hd : 0 < d) (h1 : (limbs z.natAbs).length ≤ K) (h2 : (limbs d).length ≤ K) : Sml K (mkRat z d) := by
 refine ⟨?_, ?_⟩
 ·rw [Rat.num_mkRat, if_neg (by omega)]
  refine Nat.le_trans (limbs_length_mono ?_) h1
  exact Int.natAbs_ediv_le_natAbs _ _
 ·rw [Rat.den_mkRat, if_neg (by omega)]
  exact Nat.le_trans (limbs_length_mono (Nat.div_le_self _ _)) h2
theorem sml_mulK {K L : Nat} {p q : Rat} (hp : Sml K p) (hq : Sml L q) : Sml (K + L) (p * q) := by
 rw [← qmk_mul]
 unfold qmk
 exact sml_mk (Nat.mul_pos p.den_pos q.den_pos) (by rw [sgn_natAbs]; exact limbs_mul hp.n hq.n) (limbs_mul hp.d hq.d)
theorem sml_addK {K L : Nat} {p q : Rat} (hp : Sml K p) (hq : Sml L q) : Sml (K + L + (K + L) + 1) (p + q) := by
 rw [q_add]
 refine sml_mk (Nat.mul_pos p.den_pos q.den_pos) ?_ (Nat.le_trans (limbs_mul hp.d hq.d) (by omega))
 refine Nat.le_trans (limbs_length_mono (sgn_abs_le _ _ _ _)) ?_
 exact Nat.le_trans (len_add (limbs_mul hp.n hq.d) (limbs_mul hq.n hp.d)) (by omega)
theorem sml_mul {p q : Rat} (hp : Sml 1000 p) (hq : Sml 1000 q) : Sml 10000 (p * q) := (sml_mulK hp hq).up (by omega)
theorem sml_add {p q : Rat} (hp : Sml 1000 p) (hq : Sml 1000 q) : Sml 10000 (p + q) := (sml_addK hp hq).up (by omega)
theorem sml_sub {p q : Rat} (hp : Sml 1000 p) (hq : Sml 1000 q) : Sml 10000 (p - q) := by rw [Rat.sub_eq_add_neg]; exact sml_add hp (sml_neg hq)
theorem t2B {f : Rat → Rat → Rat} {s t : ByteArray} : tB (outB (f (vQ s) (vQ t))) s t = op2B f s t := by
 unfold tB wB op2B
 by_cases h1 : qE s = 0 <;> by_cases h2 : qE t = 0 <;> simp [h1, h2]
theorem t2E {f : Rat → Rat → Rat} {s t : ByteArray} : tE (outE (f (vQ s) (vQ t))) s t = op2E f s t := by
 unfold tE wE op2E
 by_cases h1 : qE s = 0 <;> by_cases h2 : qE t = 0 <;> simp [h1, h2]
theorem q_Mul1 (w : World) (v u : Value) (p q : Rat) (hp : IsQ .u64 w v p) (hq : IsQ .u64 w u q) (sp : Sml 1000 p) (sq : Sml 1000 q) (hL : Lay w) :
 Calls Tryz.prog 132 #[v, u] w fun e w' => e = .returned (.tuple #[.string (outB (p * q)), .int .i64 (outE (p * q))]) ∧ Below w.heap.size w w' := by
 have F1 := fun V v u hv hu => hid (f_Mul V v u p q hv hu (Nat.le_trans sp.n (by omega)) (Nat.le_trans sp.d (by omega)) (Nat.le_trans sq.n (by omega)) (Nat.le_trans sq.d (by omega)))
 have SQ := sml_mul sp sq
 have F2 := fun V v hv hV => hid (f_Num V v (p * q) hv (Nat.le_trans SQ.n (by omega)) (Nat.le_trans SQ.d (by omega)) hV)
 obtain ⟨Q, hQ⟩ : ∃ Q, p * q = Q := ⟨_, rfl⟩
 rw [hQ] at F1 F2 ⊢
 have HL := hid hL
 obtain ⟨N1, D1, rfl, hn1, hd1⟩ := hp.ex
 obtain ⟨N2, D2, rfl, hn2, hd2⟩ := hq.ex
 obtain ⟨a1, c1, rfl, _⟩ := hn1.openI
 obtain ⟨a2, c2, rfl, _⟩ := hd1.openI
 obtain ⟨a3, c3, rfl, _⟩ := hn2.openI
 obtain ⟨a4, c4, rfl, _⟩ := hd2.openI
 obtain ⟨k1, hk1⟩ : ∃ k, (limbs p.num.natAbs).length = k := ⟨_, rfl⟩
 obtain ⟨k2, hk2⟩ : ∃ k, (limbs p.den).length = k := ⟨_, rfl⟩
 obtain ⟨k3, hk3⟩ : ∃ k, (limbs q.num.natAbs).length = k := ⟨_, rfl⟩
 obtain ⟨k4, hk4⟩ : ∃ k, (limbs q.den).length = k := ⟨_, rfl⟩
 obtain ⟨m1, hm1⟩ : ∃ m, decide (p.num < 0) = m := ⟨_, rfl⟩
 obtain ⟨m2, hm2⟩ : ∃ m, decide (q.num < 0) = m := ⟨_, rfl⟩
 rw [hk1, hk2, hm1] at hp ⊢
 rw [hk3, hk4, hm2] at hq ⊢
 have X1 := hid (Blk.new w #[.bool m1, .slice a1 k1 c1, .slice a2 k2 c2] 133)
 have b1 := hid ((Below.refl w.heap.size w).alloc (Nat.le_refl _) (.cells #[.bool m1, .slice a1 k1 c1, .slice a2 k2 c2] 133))
 have Y1 := hid (X1.out.alloc (.cells #[.bool m2, .slice a3 k3 c3, .slice a4 k4 c4] 133))
 have X2 := hid (Blk.new (w.alloc (.cells #[.bool m1, .slice a1 k1 c1, .slice a2 k2 c2] 133)) #[.bool m2, .slice a3 k3 c3, .slice a4 k4 c4] 133)
 have b2 := hid (b1.out.alloc b1.out.size (.cells #[.bool m2, .slice a3 k3 c3, .slice a4 k4 c4] 133))
 have P2 := hid (hp.call b2.out)
 have Q2 := hid (hq.call b2.out)
 have r0 := Y1.out.cell 0
 have r1 := Y1.out.cell 1
 have r2 := Y1.out.cell 2
 have s0 := X2.out.cell 0
 have s1 := X2.out.cell 1
 have s2 := X2.out.cell 2
 simp at r0 r1 r2 s0 s1 s2
 clear hk1 hk2 hk3 hk4 hm1 hm2 hn1 hn2 hd1 hd2 hp hq hL sp sq SQ hQ
 go_enter Tryz.func132, Tryz.ntmps132
 go_wp2_with fail
 refine (F1 _ _ _ P2.out Q2.out).out.mono ?_; rintro e w3 ⟨⟨v3, rfl, hv3⟩, hb3⟩
 have y3 := hid (bnext b2.out hb3)
 obtain ⟨N3, D3, rfl, hn3, hd3⟩ := hv3.ex
 obtain ⟨a5, c5, rfl, _⟩ := hn3.openI
 obtain ⟨a6, c6, rfl, _⟩ := hd3.openI
 obtain ⟨k5, hk5⟩ : ∃ k, (limbs Q.num.natAbs).length = k := ⟨_, rfl⟩
 obtain ⟨k6, hk6⟩ : ∃ k, (limbs Q.den).length = k := ⟨_, rfl⟩
 obtain ⟨m3, hm3⟩ : ∃ m, decide (Q.num < 0) = m := ⟨_, rfl⟩
 rw [hk5, hk6, hm3] at hv3 ⊢
 have V3 := hid hv3
 clear hb3 hv3 hn3 hd3 hk5 hk6 hm3
 go_wp2_with fail
 refine (F2 _ _ V3.out (HL.out.call y3.out)).out.mono ?_; rintro e w4 ⟨rfl, hb4⟩
 have y4 := hid (bnext y3.out hb4); clear hb4
 go_wp2_with fail
 go_ret2
 exact ⟨rfl, y4.out⟩
theorem q_Mul (w : World) (s t : ByteArray) (hs : s.size ≤ 1000000) (ht : t.size ≤ 1000000) (hL : Lay w) :
 Calls Tryz.prog 82 #[.string s, .string t] w fun e w' => e = .returned (.tuple #[.string (op2B (· * ·) s t), .int .i64 (op2E (· * ·) s t)]) ∧ Below w.heap.size w w' := by
 have H := hid (q_both w s t 132 (outB (vQ s * vQ t)) (outE (vQ s * vQ t)) hs ht hL (enters_of Tryz.func132 (by kernel_rfl) rfl)
  (fun W v u h1 h2 hv hu hLW => q_Mul1 W v u _ _ hv hu (sml_vQ h1) (sml_vQ h2) hLW))
 rw [t2B, t2E (f := (· * ·))] at H
 obtain ⟨B, hB⟩ : ∃ B, op2B (· * ·) s t = B := ⟨_, rfl⟩
 obtain ⟨E, hE⟩ : ∃ E, op2E (· * ·) s t = E := ⟨_, rfl⟩
 rw [hB, hE] at H ⊢
 clear hB hE hs ht hL
 go_enter Tryz.func82, Tryz.ntmps82
 go_wp2_with fail
 refine H.out.mono ?_; rintro e w1 ⟨rfl, hb1⟩
 have y1 := hid hb1; clear hb1
 go_wp2_with fail
 go_ret2
 exact ⟨rfl, y1.out⟩
theorem q_Add1 (w : World) (v u : Value) (p q : Rat) (hp : IsQ .u64 w v p) (hq : IsQ .u64 w u q) (sp : Sml 1000 p) (sq : Sml 1000 q) (hL : Lay w) :
 Calls Tryz.prog 134 #[v, u] w fun e w' => e = .returned (.tuple #[.string (outB (p + q)), .int .i64 (outE (p + q))]) ∧ Below w.heap.size w w' := by
 have F1 := fun V v u hv hu => hid (f_Add V v u p q hv hu (Nat.le_trans sp.n (by omega)) (Nat.le_trans sp.d (by omega)) (Nat.le_trans sq.n (by omega)) (Nat.le_trans sq.d (by omega)))
 have SQ := sml_add sp sq
 have F2 := fun V v hv hV => hid (f_Num V v (p + q) hv (Nat.le_trans SQ.n (by omega)) (Nat.le_trans SQ.d (by omega)) hV)
 obtain ⟨Q, hQ⟩ : ∃ Q, p + q = Q := ⟨_, rfl⟩
 rw [hQ] at F1 F2 ⊢
 have HL := hid hL
 obtain ⟨N1, D1, rfl, hn1, hd1⟩ := hp.ex
 obtain ⟨N2, D2, rfl, hn2, hd2⟩ := hq.ex
 obtain ⟨a1, c1, rfl, _⟩ := hn1.openI
 obtain ⟨a2, c2, rfl, _⟩ := hd1.openI
 obtain ⟨a3, c3, rfl, _⟩ := hn2.openI
 obtain ⟨a4, c4, rfl, _⟩ := hd2.openI
 obtain ⟨k1, hk1⟩ : ∃ k, (limbs p.num.natAbs).length = k := ⟨_, rfl⟩
 obtain ⟨k2, hk2⟩ : ∃ k, (limbs p.den).length = k := ⟨_, rfl⟩
 obtain ⟨k3, hk3⟩ : ∃ k, (limbs q.num.natAbs).length = k := ⟨_, rfl⟩
 obtain ⟨k4, hk4⟩ : ∃ k, (limbs q.den).length = k := ⟨_, rfl⟩
 obtain ⟨m1, hm1⟩ : ∃ m, decide (p.num < 0) = m := ⟨_, rfl⟩
 obtain ⟨m2, hm2⟩ : ∃ m, decide (q.num < 0) = m := ⟨_, rfl⟩
 rw [hk1, hk2, hm1] at hp ⊢
 rw [hk3, hk4, hm2] at hq ⊢
 have X1 := hid (Blk.new w #[.bool m1, .slice a1 k1 c1, .slice a2 k2 c2] 133)
 have b1 := hid ((Below.refl w.heap.size w).alloc (Nat.le_refl _) (.cells #[.bool m1, .slice a1 k1 c1, .slice a2 k2 c2] 133))
 have Y1 := hid (X1.out.alloc (.cells #[.bool m2, .slice a3 k3 c3, .slice a4 k4 c4] 133))
 have X2 := hid (Blk.new (w.alloc (.cells #[.bool m1, .slice a1 k1 c1, .slice a2 k2 c2] 133)) #[.bool m2, .slice a3 k3 c3, .slice a4 k4 c4] 133)
 have b2 := hid (b1.out.alloc b1.out.size (.cells #[.bool m2, .slice a3 k3 c3, .slice a4 k4 c4] 133))
 have P2 := hid (hp.call b2.out)
 have Q2 := hid (hq.call b2.out)
 have r0 := Y1.out.cell 0
 have r1 := Y1.out.cell 1
 have r2 := Y1.out.cell 2
 have s0 := X2.out.cell 0
 have s1 := X2.out.cell 1
 have s2 := X2.out.cell 2
 simp at r0 r1 r2 s0 s1 s2
 clear hk1 hk2 hk3 hk4 hm1 hm2 hn1 hn2 hd1 hd2 hp hq hL sp sq SQ hQ
 go_enter Tryz.func134, Tryz.ntmps134
 go_wp2_with fail
 refine (F1 _ _ _ P2.out Q2.out).out.mono ?_; rintro e w3 ⟨⟨v3, rfl, hv3⟩, hb3⟩
 have y3 := hid (bnext b2.out hb3)
 obtain ⟨N3, D3, rfl, hn3, hd3⟩ := hv3.ex
 obtain ⟨a5, c5, rfl, _⟩ := hn3.openI
 obtain ⟨a6, c6, rfl, _⟩ := hd3.openI
 obtain ⟨k5, hk5⟩ : ∃ k, (limbs Q.num.natAbs).length = k := ⟨_, rfl⟩
 obtain ⟨k6, hk6⟩ : ∃ k, (limbs Q.den).length = k := ⟨_, rfl⟩
 obtain ⟨m3, hm3⟩ : ∃ m, decide (Q.num < 0) = m := ⟨_, rfl⟩
 rw [hk5, hk6, hm3] at hv3 ⊢
 have V3 := hid hv3
 clear hb3 hv3 hn3 hd3 hk5 hk6 hm3
 go_wp2_with fail
 refine (F2 _ _ V3.out (HL.out.call y3.out)).out.mono ?_; rintro e w4 ⟨rfl, hb4⟩
 have y4 := hid (bnext y3.out hb4); clear hb4
 go_wp2_with fail
 go_ret2
 exact ⟨rfl, y4.out⟩
theorem q_Add (w : World) (s t : ByteArray) (hs : s.size ≤ 1000000) (ht : t.size ≤ 1000000) (hL : Lay w) :
 Calls Tryz.prog 83 #[.string s, .string t] w fun e w' => e = .returned (.tuple #[.string (op2B (· + ·) s t), .int .i64 (op2E (· + ·) s t)]) ∧ Below w.heap.size w w' := by
 have H := hid (q_both w s t 134 (outB (vQ s + vQ t)) (outE (vQ s + vQ t)) hs ht hL (enters_of Tryz.func134 (by kernel_rfl) rfl)
  (fun W v u h1 h2 hv hu hLW => q_Add1 W v u _ _ hv hu (sml_vQ h1) (sml_vQ h2) hLW))
 rw [t2B, t2E (f := (· + ·))] at H
 obtain ⟨B, hB⟩ : ∃ B, op2B (· + ·) s t = B := ⟨_, rfl⟩
 obtain ⟨E, hE⟩ : ∃ E, op2E (· + ·) s t = E := ⟨_, rfl⟩
 rw [hB, hE] at H ⊢
 clear hB hE hs ht hL
 go_enter Tryz.func83, Tryz.ntmps83
 go_wp2_with fail
 refine H.out.mono ?_; rintro e w1 ⟨rfl, hb1⟩
 have y1 := hid hb1; clear hb1
 go_wp2_with fail
 go_ret2
 exact ⟨rfl, y1.out⟩
theorem q_Sub1 (w : World) (v u : Value) (p q : Rat) (hp : IsQ .u64 w v p) (hq : IsQ .u64 w u q) (sp : Sml 1000 p) (sq : Sml 1000 q) (hL : Lay w) :
 Calls Tryz.prog 137 #[v, u] w fun e w' => e = .returned (.tuple #[.string (outB (p - q)), .int .i64 (outE (p - q))]) ∧ Below w.heap.size w w' := by
 have F1 := fun V v u hv hu => hid (f_Sub V v u p q hv hu (Nat.le_trans sp.n (by omega)) (Nat.le_trans sp.d (by omega)) (Nat.le_trans sq.n (by omega)) (Nat.le_trans sq.d (by omega)))
 have SQ := sml_sub sp sq
 have F2 := fun V v hv hV => hid (f_Num V v (p - q) hv (Nat.le_trans SQ.n (by omega)) (Nat.le_trans SQ.d (by omega)) hV)
 obtain ⟨Q, hQ⟩ : ∃ Q, p - q = Q := ⟨_, rfl⟩
 rw [hQ] at F1 F2 ⊢
 have HL := hid hL
 obtain ⟨N1, D1, rfl, hn1, hd1⟩ := hp.ex
 obtain ⟨N2, D2, rfl, hn2, hd2⟩ := hq.ex
 obtain ⟨a1, c1, rfl, _⟩ := hn1.openI
 obtain ⟨a2, c2, rfl, _⟩ := hd1.openI
 obtain ⟨a3, c3, rfl, _⟩ := hn2.openI
 obtain ⟨a4, c4, rfl, _⟩ := hd2.openI
 obtain ⟨k1, hk1⟩ : ∃ k, (limbs p.num.natAbs).length = k := ⟨_, rfl⟩
 obtain ⟨k2, hk2⟩ : ∃ k, (limbs p.den).length = k := ⟨_, rfl⟩
 obtain ⟨k3, hk3⟩ : ∃ k, (limbs q.num.natAbs).length = k := ⟨_, rfl⟩
 obtain ⟨k4, hk4⟩ : ∃ k, (limbs q.den).length = k := ⟨_, rfl⟩
 obtain ⟨m1, hm1⟩ : ∃ m, decide (p.num < 0) = m := ⟨_, rfl⟩
 obtain ⟨m2, hm2⟩ : ∃ m, decide (q.num < 0) = m := ⟨_, rfl⟩
 rw [hk1, hk2, hm1] at hp ⊢
 rw [hk3, hk4, hm2] at hq ⊢
 have X1 := hid (Blk.new w #[.bool m1, .slice a1 k1 c1, .slice a2 k2 c2] 133)
 have b1 := hid ((Below.refl w.heap.size w).alloc (Nat.le_refl _) (.cells #[.bool m1, .slice a1 k1 c1, .slice a2 k2 c2] 133))
 have Y1 := hid (X1.out.alloc (.cells #[.bool m2, .slice a3 k3 c3, .slice a4 k4 c4] 133))
 have X2 := hid (Blk.new (w.alloc (.cells #[.bool m1, .slice a1 k1 c1, .slice a2 k2 c2] 133)) #[.bool m2, .slice a3 k3 c3, .slice a4 k4 c4] 133)
 have b2 := hid (b1.out.alloc b1.out.size (.cells #[.bool m2, .slice a3 k3 c3, .slice a4 k4 c4] 133))
 have P2 := hid (hp.call b2.out)
 have Q2 := hid (hq.call b2.out)
 have r0 := Y1.out.cell 0
 have r1 := Y1.out.cell 1
 have r2 := Y1.out.cell 2
 have s0 := X2.out.cell 0
 have s1 := X2.out.cell 1
 have s2 := X2.out.cell 2
 simp at r0 r1 r2 s0 s1 s2
 clear hk1 hk2 hk3 hk4 hm1 hm2 hn1 hn2 hd1 hd2 hp hq hL sp sq SQ hQ
 go_enter Tryz.func137, Tryz.ntmps137
 go_wp2_with fail
 refine (F1 _ _ _ P2.out Q2.out).out.mono ?_; rintro e w3 ⟨⟨v3, rfl, hv3⟩, hb3⟩
 have y3 := hid (bnext b2.out hb3)
 obtain ⟨N3, D3, rfl, hn3, hd3⟩ := hv3.ex
 obtain ⟨a5, c5, rfl, _⟩ := hn3.openI
 obtain ⟨a6, c6, rfl, _⟩ := hd3.openI
 obtain ⟨k5, hk5⟩ : ∃ k, (limbs Q.num.natAbs).length = k := ⟨_, rfl⟩
 obtain ⟨k6, hk6⟩ : ∃ k, (limbs Q.den).length = k := ⟨_, rfl⟩
 obtain ⟨m3, hm3⟩ : ∃ m, decide (Q.num < 0) = m := ⟨_, rfl⟩
 rw [hk5, hk6, hm3] at hv3 ⊢
 have V3 := hid hv3
 clear hb3 hv3 hn3 hd3 hk5 hk6 hm3
 go_wp2_with fail
 refine (F2 _ _ V3.out (HL.out.call y3.out)).out.mono ?_; rintro e w4 ⟨rfl, hb4⟩
 have y4 := hid (bnext y3.out hb4); clear hb4
 go_wp2_with fail
 go_ret2
 exact ⟨rfl, y4.out⟩
theorem q_Sub (w : World) (s t : ByteArray) (hs : s.size ≤ 1000000) (ht : t.size ≤ 1000000) (hL : Lay w) :
 Calls Tryz.prog 85 #[.string s, .string t] w fun e w' => e = .returned (.tuple #[.string (op2B (· - ·) s t), .int .i64 (op2E (· - ·) s t)]) ∧ Below w.heap.size w w' := by
 have H := hid (q_both w s t 137 (outB (vQ s - vQ t)) (outE (vQ s - vQ t)) hs ht hL (enters_of Tryz.func137 (by kernel_rfl) rfl)
  (fun W v u h1 h2 hv hu hLW => q_Sub1 W v u _ _ hv hu (sml_vQ h1) (sml_vQ h2) hLW))
 rw [t2B, t2E (f := (· - ·))] at H
 obtain ⟨B, hB⟩ : ∃ B, op2B (· - ·) s t = B := ⟨_, rfl⟩
 obtain ⟨E, hE⟩ : ∃ E, op2E (· - ·) s t = E := ⟨_, rfl⟩
 rw [hB, hE] at H ⊢
 clear hB hE hs ht hL
 go_enter Tryz.func85, Tryz.ntmps85
 go_wp2_with fail
 refine H.out.mono ?_; rintro e w1 ⟨rfl, hb1⟩
 have y1 := hid hb1; clear hb1
 go_wp2_with fail
 go_ret2
 exact ⟨rfl, y1.out⟩
theorem sml_inv {K : Nat} {q : Rat} (h0 : q ≠ 0) (h : Sml K q) : Sml K q⁻¹ := ⟨by rw [(inv_num h0).2.1]; exact h.d, by rw [(inv_num h0).2.2]; exact h.n⟩
theorem sg_ne {q : Rat} (h : q ≠ 0) : (sgQ q == 0) = false := by
 rw [beq_eq_false_iff_ne]
 have : q.num ≠ 0 := fun e => h (Rat.num_eq_zero.1 e)
 unfold sgQ
 repeat' split
 all_goals first | omega | (intro h; omega) | simp_all
theorem sgn_pow (m : Bool) (a : Nat) : ∀ n : Nat, (sgn m a) ^ n = sgn (m && decide (n % 2 = 1)) (a ^ n)
 | 0 => by simp [sgn]
 | n + 1 => by
  rw [Int.pow_succ, sgn_pow m a n, Nat.pow_succ]
  rcases Nat.mod_two_eq_zero_or_one n with h | h
  ·have e : (n + 1) % 2 = 1 := by omega
   cases m <;> simp [sgn, h, e, Int.mul_neg]
  ·have e : (n + 1) % 2 = 0 := by omega
   cases m <;> simp [sgn, h, e, Int.mul_neg, Int.neg_mul]
theorem pow_parts (q : Rat) (n : Nat) : decide ((q ^ n).num < 0) = (decide (q.num < 0) && decide (n % 2 = 1)) ∧ (q ^ n).num.natAbs = q.num.natAbs ^ n ∧ (q ^ n).den = q.den ^ n := by
 have h1 : (q ^ n).num = sgn (decide (q.num < 0) && decide (n % 2 = 1)) (q.num.natAbs ^ n) := by
  rw [Rat.num_pow, ← sgn_pow, sgn_of]
 refine ⟨?_, by rw [h1, sgn_natAbs], Rat.den_pow q n⟩
 rw [h1]
 by_cases hq : q.num < 0
 ·rw [sgn_neg (Nat.pow_pos (by omega))]
 ·have : decide (q.num < 0) = false := by simpa using hq
  rw [this]
  simp [sgn]
  exact Int.natCast_nonneg _
theorem pow_over {q : Rat} {n : Nat} (h : 4000 < nDigits (q.num.natAbs ^ n) ∨ 4000 < nDigits (q.den ^ n)) : outB (q ^ n) = ⟨#[]⟩ ∧ outE (q ^ n) = 5 := by
 obtain ⟨-, h2, h3⟩ := pow_parts q n
 have : ovQ (q ^ n) := by unfold ovQ; rw [h2, h3]; exact h
 exact ⟨if_pos this, if_pos this⟩
theorem q_Pow1 (w : World) (v : Value) (q : Rat) (n g1 : Nat) (hp : IsQ .u64 w v q) (sp : Sml 1000 q) (hn : n ≤ 9223372036854775807) (hL : Lay w) (c1 : w.cell? ⟨g1, 0, none⟩ = some (.int .i64 (n : Nat))) :
 Calls Tryz.prog 103 #[v, .pointer (some ⟨g1, 0, none⟩)] w fun e w' => e = .returned (.tuple #[.string (outB (q ^ n)), .int .i64 (outE (q ^ n))]) ∧ Below w.heap.size w w' := by
 have F1 := fun V v hv hV => hid (l_Pow V v q.num.natAbs n hv (Nat.le_trans sp.n (by omega)) (by omega) hV)
 have F2 := fun V v hv hV => hid (l_Pow V v q.den n hv (Nat.le_trans sp.d (by omega)) (by omega) hV)
 obtain ⟨e1, e2, e3⟩ := pow_parts q n
 have HOV := hid (fun h => pow_over (q := q) (n := n) h)
 have F3 := fun V v hv hV (h1 : nDigits (q.num.natAbs ^ n) ≤ 4000) (h2 : nDigits (q.den ^ n) ≤ 4000) => hid (f_Num V v (q ^ n) hv (by rw [e2]; exact Nat.le_trans (limbs_of_digits h1) (by omega)) (by rw [e3]; exact Nat.le_trans (limbs_of_digits h2) (by omega)) hV)
 obtain ⟨B, hB⟩ : ∃ B, outB (q ^ n) = B := ⟨_, rfl⟩
 obtain ⟨E, hE⟩ : ∃ E, outE (q ^ n) = E := ⟨_, rfl⟩
 rw [hB, hE] at F3 HOV ⊢
 clear hB hE
 have HL := hid hL
 obtain ⟨N1, D1, rfl, hn1, hd1⟩ := hp.ex
 obtain ⟨a1, c1', rfl, _⟩ := hn1.openI
 obtain ⟨a2, c2', rfl, _⟩ := hd1.openI
 obtain ⟨k1, hk1⟩ : ∃ k, (limbs q.num.natAbs).length = k := ⟨_, rfl⟩
 obtain ⟨k2, hk2⟩ : ∃ k, (limbs q.den).length = k := ⟨_, rfl⟩
 obtain ⟨m1, hm1⟩ : ∃ m, decide (q.num < 0) = m := ⟨_, rfl⟩
 rw [hk1, hk2, hm1] at hp ⊢
 rw [hk1] at hn1
 rw [hk2] at hd1
 rw [hm1] at e1
 have X1 := hid (Blk.new w #[.bool m1, .slice a1 k1 c1', .slice a2 k2 c2'] 133)
 have b1 := hid ((Below.refl w.heap.size w).alloc (Nat.le_refl _) (.cells #[.bool m1, .slice a1 k1 c1', .slice a2 k2 c2'] 133))
 have N2 := hid (hn1.call b1.out)
 have D2 := hid (hd1.call b1.out)
 have r0 := X1.out.cell 0
 have r1 := X1.out.cell 1
 have r2 := X1.out.cell 2
 have C1 := (b1.out.cell (cell_lt c1)).trans c1
 simp at r0 r1 r2
 have q0 : decide ((n : Int) < 0) = false := by simp
 have w0 : IntKind.u64.wrap (n : Int) = (n : Int) := IntWalk.u64_in _ ⟨by omega, by omega⟩
 have E1 := hid e1; have E2 := hid e2; have E3 := hid e3; have HN := hid hn
 clear hk1 hk2 hm1 hn1 hd1 hp hL sp e1 e2 e3 c1 hn
 go_enter Tryz.func103, Tryz.ntmps103
 go_wp2_with fail
 refine (F1 _ _ N2.out (HL.out.call b1.out)).out.mono ?_; rintro e w3 ⟨hr3, hb3⟩
 have y3 := hid (bnext b1.out hb3); have X3 := hid (X1.out.call hb3); have C3 := (hb3.cell (cell_lt C1)).trans C1; have D3 := hid (D2.out.call hb3)
 clear hb3 r0 r1 r2 C1
 have r0 := X3.out.cell 0
 have r1 := X3.out.cell 1
 have r2 := X3.out.cell 2
 simp at r0 r1 r2
 rcases hr3 with ⟨l3, v3, rfl, hv3⟩ | ⟨l3, rfl⟩
 ·obtain ⟨a3, c3, rfl, _⟩ := hv3.openI
  obtain ⟨k3, hk3⟩ : ∃ k, (limbs (q.num.natAbs ^ n)).length = k := ⟨_, rfl⟩
  rw [hk3] at hv3 ⊢
  have V3 := hid hv3; have L3 := hid l3
  clear hk3 hv3 l3
  go_wp2_with fail
  refine (F2 _ _ D3.out (HL.out.call y3.out)).out.mono ?_; rintro e w4 ⟨hr4, hb4⟩
  have y4 := hid (bnext y3.out hb4); have X4 := hid (X3.out.call hb4); have C4 := (hb4.cell (cell_lt C3)).trans C3; have V4 := hid (V3.out.call hb4)
  clear hb4 r0 r1 r2 C3
  have r0 := X4.out.cell 0
  have r1 := X4.out.cell 1
  have r2 := X4.out.cell 2
  simp at r0 r1 r2
  rcases hr4 with ⟨l4, v4, rfl, hv4⟩ | ⟨l4, rfl⟩
  ·obtain ⟨a4, c4, rfl, _⟩ := hv4.openI
   obtain ⟨k4, hk4⟩ : ∃ k, (limbs (q.den ^ n)).length = k := ⟨_, rfl⟩
   rw [hk4] at hv4 ⊢
   have W4 := hid hv4; have L4 := hid l4
   clear hk4 hv4 l4
   have M := hid (show IsQ .u64 w4 (.agg #[.bool (m1 && decide (n % 2 = 1)), .slice a3 k3 c3, .slice a4 k4 c4]) (q ^ n) from ⟨_, _, by rw [E1.out], by rw [E2.out]; exact V4.out, by rw [E3.out]; exact W4.out⟩)
   obtain ⟨Q, hQ⟩ : ∃ Q, q ^ n = Q := ⟨_, rfl⟩
   rw [hQ] at F3 M
   clear hQ HOV F1 F2
   have F4 := F3 _ _ M.out (HL.out.call y4.out) L3.out L4.out
   cases m1
   ·simp only [Bool.false_and] at F4
    go_wp2_with fail
    refine F4.out.mono ?_; rintro e w5 ⟨rfl, hb5⟩
    have y5 := hid (bnext y4.out hb5); clear hb5
    go_wp2_with fail
    go_ret2
    exact ⟨rfl, y5.out⟩
   ·simp only [Bool.true_and] at F4
    have e9 : ((n : Int) % 2 == 1) = decide (n % 2 = 1) := by
     rw [Bool.eq_iff_iff, beq_iff_eq, decide_eq_true_eq]; omega
    rw [← e9] at F4
    clear e9
    go_wp2_with fail
    refine F4.out.mono ?_; rintro e w5 ⟨rfl, hb5⟩
    have y5 := hid (bnext y4.out hb5); clear hb5
    go_wp2_with fail
    go_ret2
    exact ⟨rfl, y5.out⟩
  ·have e7 := hid (HOV.out (.inr l4))
   clear l4
   go_wp2_with fail
   go_ret2
   exact ⟨by rw [e7.out.1, e7.out.2]; rfl, y4.out⟩
 ·have e7 := hid (HOV.out (.inl l3))
  clear l3
  go_wp2_with fail
  refine (F2 _ _ D3.out (HL.out.call y3.out)).out.mono ?_; rintro e w4 ⟨hr4, hb4⟩
  have y4 := hid (bnext y3.out hb4)
  rcases hr4 with ⟨l4, v4, rfl, hv4⟩ | ⟨l4, rfl⟩
  ·obtain ⟨a4, c4, rfl, _⟩ := hv4.openI
   obtain ⟨k4, hk4⟩ : ∃ k, (limbs (q.den ^ n)).length = k := ⟨_, rfl⟩
   rw [hk4]
   clear hk4 hv4 l4 hb4
   go_wp2_with fail
   go_ret2
   exact ⟨by rw [e7.out.1, e7.out.2]; rfl, y4.out⟩
  ·clear l4 hb4
   go_wp2_with fail
   go_ret2
   exact ⟨by rw [e7.out.1, e7.out.2]; rfl, y4.out⟩
def pwB (n : Nat) (s : ByteArray) : ByteArray := op1B (· ^ n) s
def pwE (n : Nat) (s : ByteArray) : Int := op1E (· ^ n) s
theorem q_Pow (w : World) (s : ByteArray) (n : Nat) (hs : s.size ≤ 1000000) (hn : n ≤ 9223372036854775807) (hL : Lay w) :
 Calls Tryz.prog 51 #[.string s, .int .i64 (n : Nat)] w fun e w' => e = .returned (.tuple #[.string (pwB n s), .int .i64 (pwE n s)]) ∧ Below w.heap.size w w' := by
 have HL := hid hL
 have b1 := hid ((Below.refl w.heap.size w).alloc (Nat.le_refl _) (.cells #[.int .i64 (n : Nat)] 3))
 have X1 := hid (Blk.new w #[.int .i64 (n : Nat)] 3)
 obtain ⟨g1, hg1⟩ : ∃ g, w.heap.size = g := ⟨_, rfl⟩
 obtain ⟨w1, hw1⟩ : ∃ w1, w.alloc (.cells #[.int .i64 (n : Nat)] 3) = w1 := ⟨_, rfl⟩
 have L1 := hid (HL.out.call b1.out)
 have b1' := b1
 rw [hw1] at b1 X1 L1
 rw [hg1] at X1
 have W1 := hid (q_with w1 s 103 #[.pointer (some ⟨g1, 0, none⟩)] (outB (vQ s ^ n)) (outE (vQ s ^ n)) hs L1.out (enters_of Tryz.func103 (by kernel_rfl) rfl)
  (fun W v hq hb hv hLW => q_Pow1 W v (vQ s) n g1 hv (sml_vQ hq) hn hLW ((X1.out.call hb).cell 0)))
 have e1 : wB (outB (vQ s ^ n)) s = pwB n s := rfl
 have e2 : wE (outE (vQ s ^ n)) s = pwE n s := rfl
 rw [e1, e2] at W1
 obtain ⟨B, hB⟩ : ∃ B, pwB n s = B := ⟨_, rfl⟩
 obtain ⟨E, hE⟩ : ∃ E, pwE n s = E := ⟨_, rfl⟩
 rw [hB, hE] at W1 ⊢
 have HW := hid hw1; have HG := hid hg1
 clear hB hE hs hL hn e1 e2 hw1 hg1 b1'
 go_enter Tryz.func51, Tryz.ntmps51
 go_wp2_with fail
 have hw1 := HW.out; have hg1 := HG.out
 rw [hw1, hg1]
 refine W1.out.mono ?_; rintro e w2 ⟨rfl, hb2⟩
 have y2 := hid (bnext b1.out hb2)
 clear hb2 hw1 hg1
 go_wp2_with fail
 go_ret2
 exact ⟨rfl, y2.out⟩
end Go.Proofs.YtckihjfkafdncaaGreatDoor
namespace Go.Proofs.YtckihjfkafdncaaGreatDoor
open Go.RowKit
open Go.Lib (decDigits nDigits)
theorem ratio_mk {a : ByteArray} (h : gPE a = 0) : vQ a = mkRat (bN (cW a) : Nat) (bN (qD a)) := by
 have hm : iM (cW a) = false := by
  unfold gPE at h
  split at h
  ·rename_i he; exact absurd h he
  ·split at h
   ·cases h
   ·rename_i _ hm
    cases hi : iM (cW a)
    ·rfl
    ·exact absurd (.inl hi) hm
 unfold vQ
 rw [hm, iD_plain hm, qmk_nat]
section
variable {a : ByteArray} {n : Nat} (hG : gPE a = 0) (hs : a.size ≤ 20) (hn : n ≤ 12)
include hG hs hn
end
end Go.Proofs.YtckihjfkafdncaaGreatDoor
namespace Go.Proofs.YtckihjfkafdncaaGreatDoor
open Go.RowKit
def p3 (N D n i k s : Nat) (v : Int) : Nat := if (k : Int) - (i : Int) = v then sumN (fun s' => edn N D k s' * cw (n - s') (oneP N D i)) s else 0
def q3 (N D n i k : Nat) (v : Int) : Nat := sumN (fun k' => p3 N D n i k' (n + 1) v) k
def t3 (N D n i : Nat) (v : Int) : Nat := sumN (fun i' => q3 N D n i' (n + 1) v) i
def c3 (N D n i k s : Nat) (v : Int) : Nat := t3 N D n i v + q3 N D n i k v + p3 N D n i k s v
open Go.Lib (decDigits nDigits)
theorem ratio_q {a : ByteArray} (h : gPE a = 0) : qE a = 0 ∧ iM (cW a) = false := by
 unfold gPE at h
 split at h
 ·rename_i he; exact absurd h he
 ·rename_i he
  split at h
  ·cases h
  ·rename_i hm
   refine ⟨by simpa using he, ?_⟩
   cases hi : iM (cW a)
   ·rfl
   ·exact absurd (.inl hi) hm
theorem ratio_pos {a : ByteArray} (h : gPE a = 0) (h0 : a ≠ ⟨#[48]⟩) : 0 < bN (cW a) := by
 obtain ⟨h1, h2⟩ := ratio_q h
 obtain ⟨v1, v2, -, -, -, v6⟩ := valid h1
 rw [iD_plain h2] at v1 v6
 rcases Nat.eq_zero_or_pos (bN (cW a)) with e | e
 ·refine absurd ?_ h0
  rw [e, Nat.gcd_zero_left] at v1
  rw [v6, e, v1, h2]
  apply ba_ext
  rw [txB_list, dec_zero]
  rfl
 ·exact e
section
variable {N D : Nat} (h : N < D)
include h
def o3 (N D n i j : Nat) : Nat := if n ≤ j ∧ j < n + i then gV N D false n ((j : Int) - n) else 0
omit h in
end
def pngB (n : Nat) (s : ByteArray) : ByteArray := op1B (fun q => q⁻¹ ^ n) s
def pngE (n : Nat) (s : ByteArray) : Int := op1E (fun q => q⁻¹ ^ n) s
def ivrE (a : ByteArray) : Int := if gPE a ≠ 0 then gPE a else if a = ⟨#[48]⟩ then 6 else 0
def ffX (a : ByteArray) (reach : Int) : Int := if ivrE a ≠ 0 then ivrE a else if reach < 0 ∨ 10000 < reach then 2 else 0
def ffM (reach : Int) (one : Bool) : Nat := if one = true then reach.toNat else 2 * reach.toNat
def ffB (a : ByteArray) (reach : Int) (one : Bool) : ByteArray := if ffX a reach ≠ 0 then ⟨#[]⟩ else pngB (ffM reach one) a
def ffE (a : ByteArray) (reach : Int) (one : Bool) : Int := if ffX a reach ≠ 0 then ffX a reach else pngE (ffM reach one) a
theorem fx_size (f : Rat → Rat → Rat) (s t : ByteArray) : (op2B f s t).size ≤ 10000 := by
 unfold op2B
 split
 ·exact outB_size _
 ·exact Nat.zero_le _
theorem ivrE_ok {a : ByteArray} (h : ivrE a = 0) : gPE a = 0 ∧ a ≠ ⟨#[48]⟩ := by
 unfold ivrE at h
 split at h
 ·rename_i h1; exact absurd h h1
 ·rename_i h1
  refine ⟨Classical.byContradiction h1, fun e => ?_⟩
  rw [if_pos e] at h; cases h
theorem iv_pos {a : ByteArray} (h : ivrE a = 0) : qE a = 0 ∧ 0 < (vQ a).num := by
 obtain ⟨h1, h2⟩ := ivrE_ok h
 obtain ⟨hq, hm⟩ := ratio_q h1
 obtain ⟨e1, e2, e3⟩ := vQ_ok hq
 refine ⟨hq, ?_⟩
 have hp := ratio_pos h1 h2
 have e4 : iD (cW a) = cW a := iD_plain hm
 rw [e4] at e2
 have h3 : ¬ (vQ a).num < 0 := by
  have := e1
  rw [hm] at this
  simpa using this
 omega
theorem iv_ne {a : ByteArray} (h : ivrE a = 0) : vQ a ≠ 0 := fun e => by
 have := (iv_pos h).2
 rw [e] at this
 exact absurd this (by decide)
structure PkOk (c : List Int) (a : ByteArray) (b : List ByteArray) : Prop where
 pos : 1 ≤ c.length
 le : c.length ≤ 256
 rng : ∀ x ∈ c, -1125899906842624 ≤ x ∧ x ≤ 1125899906842624
 a : gPE a = 0
 len : b.length = c.length
 b : ∀ s ∈ b, chkE s = 0
theorem qnE_ok {c : List Int} {a : ByteArray} (h : qnE c a = 0) : 1 ≤ c.length ∧ c.length ≤ 256 ∧ (∀ x ∈ c, -1125899906842624 ≤ x ∧ x ≤ 1125899906842624) ∧ gPE a = 0 := by
 unfold qnE at h
 split at h
 ·rename_i h1; exact absurd h h1
 ·rename_i h1
  have h1 : ctE c = 0 := Classical.byContradiction h1
  unfold ctE at h1
  split at h1
  ·cases h1
  ·rename_i h2
   unfold zE at h1
   split at h1
   ·cases h1
   ·rename_i h3
    split at h1
    ·cases h1
    ·rename_i h4
     refine ⟨by omega, by omega, fun x hx => ?_, h⟩
     have : wildB x = false := by
      cases hw : wildB x
      ·rfl
      ·exact absurd (List.any_eq_true.2 ⟨x, hx, hw⟩) h4
     unfold wildB at this
     simp only [Bool.or_eq_false_iff, decide_eq_false_iff_not] at this
     omega
theorem wdE_ok {b : List ByteArray} {m : Int} (h : wdE b m = 0) : (b.length : Int) = m ∧ ∀ s ∈ b, chkE s = 0 := by
 unfold wdE at h
 split at h
 ·rename_i h1; exact ⟨h1, bsE_zero.1 h⟩
 ·cases h
theorem pkE_ok {c : List Int} {a : ByteArray} {b : List ByteArray} (h : pkE c a b = 0) : PkOk c a b := by
 unfold pkE at h
 split at h
 ·rename_i h1; exact absurd h h1
 ·rename_i h1
  have h1 : qnE c a = 0 := Classical.byContradiction h1
  obtain ⟨q1, q2, q3, q4⟩ := qnE_ok h1
  obtain ⟨w1, w2⟩ := wdE_ok h
  exact ⟨q1, q2, q3, q4, by omega, w2⟩
noncomputable def nzTb (g : Int → Nat) (n : Nat) (ks : List ByteArray) (v : Nat) : ByteArray := @ite _ (numB v ∈ ks) (Classical.propDecidable _) (dyB (g v) n) ⟨#[48]⟩
noncomputable def nzT (g : Int → Nat) (n : Nat) (ks : List ByteArray) : List ByteArray := (List.range (n + 1)).map (nzTb g n ks)
@[simp] theorem nzT_length (g : Int → Nat) (n : Nat) (ks : List ByteArray) : (nzT g n ks).length = n + 1 := by simp [nzT]
theorem nzT_nil (g : Int → Nat) (n : Nat) : nzT g n [] = List.replicate (n + 1) ⟨#[48]⟩ := by
 apply List.ext_getElem
 ·simp
 ·intro i h1 h2
  simp only [nzT, List.getElem_map, List.getElem_range, List.getElem_replicate]
  unfold nzTb
  rw [if_neg (by simp)]
theorem nzT_num (g : Int → Nat) {n v : Nat} (hv : v ≤ n) (ks : List ByteArray) : nzT g n (ks ++ [numB v]) = (nzT g n ks).set v (dyB (g v) n) := by
 apply List.ext_getElem
 ·simp
 ·intro i h1 h2
  rw [List.getElem_set]
  simp only [nzT, List.getElem_map, List.getElem_range]
  unfold nzTb
  by_cases e : v = i
  ·subst e
   rw [if_pos rfl, if_pos (by simp)]
  ·rw [if_neg e]
   have : (numB i ∈ ks ++ [numB v]) ↔ numB i ∈ ks := by
    rw [List.mem_append, List.mem_singleton]
    constructor
    ·rintro (h | h)
     ·exact h
     ·exact absurd (numB_inj h).symm e
    ·exact .inl
   by_cases h : numB i ∈ ks
   ·rw [if_pos h, if_pos (this.2 h)]
   ·rw [if_neg h, if_neg (fun k => h (this.1 k))]
theorem numB_ne_late (i : Nat) : numB i ≠ lateB := fun h => numB_late i (congrArg (fun b => b.data.toList) h)
theorem nzT_late (g : Int → Nat) (n : Nat) (ks : List ByteArray) : nzT g n (ks ++ [lateB]) = nzT g n ks := by
 unfold nzT
 refine List.map_congr_left fun i _ => ?_
 unfold nzTb
 have : (numB i ∈ ks ++ [lateB]) ↔ numB i ∈ ks := by
  rw [List.mem_append, List.mem_singleton]
  constructor
  ·rintro (h | h)
   ·exact h
   ·exact absurd h (numB_ne_late i)
  ·exact .inl
 by_cases h : numB i ∈ ks
 ·rw [if_pos h, if_pos (this.2 h)]
 ·rw [if_neg h, if_neg (fun k => h (this.1 k))]
def prT (g : Int → Nat) (n : Nat) : List ByteArray := (List.range (n + 1)).map fun (v : Nat) => dyB (g v) n
@[simp] theorem prT_length (g : Int → Nat) (n : Nat) : (prT g n).length = n + 1 := by simp [prT]
theorem prT_get {g : Int → Nat} {n i : Nat} (h : i ≤ n) : (prT g n)[i]? = some (dyB (g (i : Int)) n) := by
 unfold prT
 rw [List.getElem?_map, List.getElem?_range (by omega)]; rfl
theorem nz_mass {g : Int → Nat} {n r : Nat} (hg : ∀ v : Int, v < 0 → g v = 0) {p : ByteArray × ByteArray} (h : p ∈ sortM (glP g (2 ^ n) n r)) : (∃ v : Nat, v ≤ n ∧ p = (numB v, dyB (g v) n)) ∨ p.1 = lateB := by
 rw [sortM_mem, glP_mem] at h
 rcases h with ⟨v, h1, h2, h3, rfl⟩ | ⟨_, rfl⟩
 ·have h0 : ¬ v < 0 := fun h0 => h3 (hg v h0)
  refine .inl ⟨v.toNat, by omega, ?_⟩
  have e : ((v.toNat : Nat) : Int) = v := by omega
  rw [← zB_nat, e]; rfl
 ·exact .inr rfl
theorem nzT_all {g : Int → Nat} {n r : Nat} (hg : ∀ v : Int, v < 0 → g v = 0) : nzT g n ((sortM (glP g (2 ^ n) n r)).map Prod.fst) = prT g n := by
 unfold nzT prT
 refine List.map_congr_left fun i hi => ?_
 rw [List.mem_range] at hi
 unfold nzTb
 by_cases h0 : g (i : Int) = 0
 ·rw [h0, dy_zero]
  split <;> rfl
 ·rw [if_pos]
  rw [List.mem_map]
  refine ⟨(zB (i : Int), shB (g (i : Int)) (2 ^ n)), sortM_mem.2 (glP_mem.2 (.inl ⟨i, by omega, by omega, h0, rfl⟩)), ?_⟩
  exact zB_nat i
def ksL (L : List (ByteArray × ByteArray)) (j : Nat) : List ByteArray := (L.take j).map Prod.fst
theorem ksL_zero (L : List (ByteArray × ByteArray)) : ksL L 0 = [] := rfl
theorem ksL_all (L : List (ByteArray × ByteArray)) : ksL L L.length = L.map Prod.fst := by unfold ksL; rw [List.take_length]
theorem ksL_succ {L : List (ByteArray × ByteArray)} {j : Nat} {p : ByteArray × ByteArray} (h : L[j]? = some p) : ksL L (j + 1) = ksL L j ++ [p.1] := by
 have hj := (List.getElem?_eq_some_iff.1 h).1
 unfold ksL
 rw [List.take_add_one, h]
 simp
def cmL (g : Int → Nat) (n i : Nat) : List ByteArray := (List.range (i + 1)).map fun j => dyB (cmS g j) n
@[simp] theorem cmL_length (g : Int → Nat) (n i : Nat) : (cmL g n i).length = i + 1 := by simp [cmL]
theorem cmL_zero (g : Int → Nat) (n : Nat) : cmL g n 0 = [⟨#[48]⟩] := by
 show [dyB (cmS g 0) n] = _
 rw [show cmS g 0 = 0 from rfl, dy_zero]
theorem cmL_succ (g : Int → Nat) (n i : Nat) : cmL g n (i + 1) = cmL g n i ++ [dyB (cmS g (i + 1)) n] := by
 unfold cmL
 rw [List.range_succ, List.map_append]; rfl
theorem cmL_get {g : Int → Nat} {n i j : Nat} (h : j ≤ i) : (cmL g n i)[j]? = some (dyB (cmS g j) n) := by
 unfold cmL
 rw [List.getElem?_map, List.getElem?_range (by omega)]; rfl
theorem dyB_size {x m : Nat} (hx : x ≤ 2 ^ m) (h : m ≤ 1000) : (dyB x m).size ≤ 10000 := by unfold dyB shB; exact outB_size _
end Go.Proofs.YtckihjfkafdncaaGreatDoor
namespace Go.Proofs
open Go.Shelf
def Tryz.sortMW_ren : Go.Shelf.Ren := ⟨fun | 14 => 87 | 20 => 139 | 21 => 140 | 22 => 141 | 23 => 142 | 24 => 143 | 25 => 144 | 26 => 145 | 27 => 146 | 46 => 200 | 47 => 201 | 48 => 202 | 49 => 203 | 50 => 204 | 15 => 88 | 57 => 256 | 28 => 147 | 29 => 148 | n => n, fun | 24 => 39 | 22 => 25 | 3 => 3 | 25 => 71 | 4 => 4 | 0 => 0 | 46 => 163 | 45 => 162 | 50 => 167 | 66 => 212 | 39 => 118 | 55 => 135 | 70 => 216 | 76 => 275 | 77 => 74 | 53 => 170 | 5 => 5 | 9 => 9 | n => n, fun | n => n⟩
theorem Tryz.sortMW : Go.Proofs.SlLaysF0.n14 Tryz.prog Tryz.sortMW_ren := {
 mixed := by kernel_rfl
 f14 := ⟨Tryz.f87.name, by decide, Tryz.func87.trans (congrArg some (by kernel_rfl))⟩
 f15 := Tryz.func88.trans (congrArg some (by kernel_rfl))
 f20 := ⟨Tryz.f139.name, by decide, Tryz.func139.trans (congrArg some (by kernel_rfl))⟩
 f21 := ⟨Tryz.f140.name, by decide, Tryz.func140.trans (congrArg some (by kernel_rfl))⟩
 f22 := ⟨Tryz.f141.name, by decide, Tryz.func141.trans (congrArg some (by kernel_rfl))⟩
 f23 := ⟨Tryz.f142.name, by decide, Tryz.func142.trans (congrArg some (by kernel_rfl))⟩
 f24 := ⟨Tryz.f143.name, by decide, Tryz.func143.trans (congrArg some (by kernel_rfl))⟩
 f25 := ⟨Tryz.f144.name, by decide, Tryz.func144.trans (congrArg some (by kernel_rfl))⟩
 f26 := ⟨Tryz.f145.name, by decide, Tryz.func145.trans (congrArg some (by kernel_rfl))⟩
 f27 := ⟨Tryz.f146.name, by decide, Tryz.func146.trans (congrArg some (by kernel_rfl))⟩
 f28 := Tryz.func147.trans (congrArg some (by kernel_rfl))
 f29 := Tryz.func148.trans (congrArg some (by kernel_rfl))
 f46 := ⟨Tryz.f200.name, by decide, Tryz.func200.trans (congrArg some (by kernel_rfl))⟩
 f47 := Tryz.func201.trans (congrArg some (by kernel_rfl))
 f48 := Tryz.func202.trans (congrArg some (by kernel_rfl))
 f49 := ⟨Tryz.f203.name, by decide, Tryz.func203.trans (congrArg some (by kernel_rfl))⟩
 f50 := ⟨Tryz.f204.name, by decide, Tryz.func204.trans (congrArg some (by kernel_rfl))⟩
 f57 := ⟨Tryz.f256.name, by decide, Tryz.func256.trans (congrArg some (by kernel_rfl))⟩
 t0 := Tryz.underlying0
 a0 := Tryz.isAgg0
 z0 := Tryz.sizeOf0
 v0 := Tryz.zeroValue0
 t3 := Tryz.underlying3
 a3 := Tryz.isAgg3
 z3 := Tryz.sizeOf3
 v3 := Tryz.zeroValue3
 t4 := Tryz.underlying4
 a4 := Tryz.isAgg4
 z4 := Tryz.sizeOf4
 v4 := Tryz.zeroValue4
 t5 := Tryz.underlying5
 a5 := Tryz.isAgg5
 z5 := Tryz.sizeOf5
 v5 := Tryz.zeroValue5
 t9 := Tryz.underlying9
 a9 := Tryz.isAgg9
 z9 := Tryz.sizeOf9
 v9 := Tryz.zeroValue9
 t22 := Tryz.underlying25
 a22 := Tryz.isAgg25
 z22 := Tryz.sizeOf25
 v22 := Tryz.zeroValue25
 t25 := Tryz.underlying71
 a25 := Tryz.isAgg71
 z25 := Tryz.sizeOf71
 v25 := Tryz.zeroValue71
 t39 := Tryz.underlying118
 a39 := Tryz.isAgg118
 z39 := Tryz.sizeOf118
 v39 := Tryz.zeroValue118
 t45 := Tryz.underlying162
 a45 := Tryz.isAgg162
 z45 := Tryz.sizeOf162
 v45 := Tryz.zeroValue162
 t46 := Tryz.underlying163
 a46 := Tryz.isAgg163
 z46 := Tryz.sizeOf163
 v46 := Tryz.zeroValue163
 t50 := Tryz.underlying167
 a50 := Tryz.isAgg167
 z50 := Tryz.sizeOf167
 v50 := Tryz.zeroValue167
 t53 := Tryz.underlying170
 a53 := Tryz.isAgg170
 z53 := Tryz.sizeOf170
 v53 := Tryz.zeroValue170
 t55 := Tryz.underlying135
 a55 := Tryz.isAgg135
 z55 := Tryz.sizeOf135
 v55 := Tryz.zeroValue135
 t66 := Tryz.underlying212
 a66 := Tryz.isAgg212
 z66 := Tryz.sizeOf212
 v66 := Tryz.zeroValue212
 t70 := Tryz.underlying216
 a70 := Tryz.isAgg216
 z70 := Tryz.sizeOf216
 v70 := Tryz.zeroValue216
 t76 := Tryz.underlying275
 a76 := Tryz.isAgg275
 z76 := Tryz.sizeOf275
 v76 := Tryz.zeroValue275
 t77 := Tryz.underlying74
 a77 := Tryz.isAgg74
 z77 := Tryz.sizeOf74
 v77 := Tryz.zeroValue74 }
def Tryz.lenW_ren : Go.Shelf.Ren := ⟨fun | 125 => 88 | 128 => 147 | 129 => 148 | n => n, fun | 46 => 118 | 3 => 3 | 51 => 170 | 53 => 135 | 4 => 4 | 5 => 5 | 9 => 9 | n => n, fun | n => n⟩
theorem Tryz.lenW : Go.Proofs.Lays.n125 Tryz.prog Tryz.lenW_ren := {
 mixed := by kernel_rfl
 f125 := Tryz.func88.trans (congrArg some (by kernel_rfl))
 f128 := Tryz.func147.trans (congrArg some (by kernel_rfl))
 f129 := Tryz.func148.trans (congrArg some (by kernel_rfl))
 t3 := Tryz.underlying3
 a3 := Tryz.isAgg3
 z3 := Tryz.sizeOf3
 v3 := Tryz.zeroValue3
 t4 := Tryz.underlying4
 a4 := Tryz.isAgg4
 z4 := Tryz.sizeOf4
 v4 := Tryz.zeroValue4
 t5 := Tryz.underlying5
 a5 := Tryz.isAgg5
 z5 := Tryz.sizeOf5
 v5 := Tryz.zeroValue5
 t9 := Tryz.underlying9
 a9 := Tryz.isAgg9
 z9 := Tryz.sizeOf9
 v9 := Tryz.zeroValue9
 t46 := Tryz.underlying118
 a46 := Tryz.isAgg118
 z46 := Tryz.sizeOf118
 v46 := Tryz.zeroValue118
 t51 := Tryz.underlying170
 a51 := Tryz.isAgg170
 z51 := Tryz.sizeOf170
 v51 := Tryz.zeroValue170
 t53 := Tryz.underlying135
 a53 := Tryz.isAgg135
 z53 := Tryz.sizeOf135
 v53 := Tryz.zeroValue135 }
end Go.Proofs
namespace Go.Proofs.YtckihjfkafdncaaGreatDoor
open Go.RowKit
open Go.Sort
open Go.Shelf
open Go.Lib
def cmpK (p q : ByteArray × ByteArray) : Int := if keyL p < keyL q then -1 else if keyL q < keyL p then 1 else 0
theorem cmpK_neg (p q : ByteArray × ByteArray) : cmpK p q < 0 ↔ keyL p < keyL q := by
 unfold cmpK
 split
 ·rename_i h; simp [h]
 ·rename_i h
  split <;> simp [h]
def encM (p : ByteArray × ByteArray) : List Value := [.string p.1, .string p.2]
theorem swoM : SWO (ltOf cmpK) where
 irrefl x := by
  simp only [ltOf, decide_eq_false_iff_not, cmpK_neg]
  exact List.lt_irrefl _
 trans x y z h1 h2 := by
  simp only [ltOf, decide_eq_true_eq, cmpK_neg] at *
  exact List.lt_trans h1 h2
 ntrans x y z h1 h2 := by
  simp only [ltOf, decide_eq_false_iff_not, cmpK_neg, List.not_lt] at *
  exact List.le_trans h2 h1
theorem massC_at {L : List (ByteArray × ByteArray)} (i : Nat) : (massC L)[i]? = (L[i / 2]?).map (fun p => if i % 2 = 0 then Value.string p.1 else Value.string p.2) := by
 cases h : L[i / 2]? with
 | none =>
  rw [List.getElem?_eq_none_iff] at h
  rw [Option.map_none, List.getElem?_eq_none_iff, massC_length]
  omega
 | some p =>
  obtain ⟨h1, h2⟩ := massC_get h
  rw [Option.map_some]
  by_cases hm : i % 2 = 0
  ·rw [if_pos hm, show i = 2 * (i / 2) by omega]; exact h1
  ·rw [if_neg hm, show i = 2 * (i / 2) + 1 by omega]; exact h2
theorem flatK_mass (d : Array (ByteArray × ByteArray)) : (flatK encM 2 d).toList = massC d.toList := by
 apply List.ext_getElem?
 intro i
 rw [massC_at]
 by_cases hi : i < d.size * 2
 ·have e1 := get_flatK encM 2 d i (by omega)
  rw [getElem!_pos _ _ (by simp; omega)] at e1
  have hi2 : i / 2 < d.size := by omega
  rw [Array.getElem?_toList, Array.getElem?_eq_getElem (by simp; omega), e1, Array.getElem?_toList, Array.getElem?_eq_getElem hi2, Option.map_some, getElem!_pos d (i / 2) hi2]
  by_cases hm : i % 2 = 0
  ·rw [if_pos hm, hm]; rfl
  ·rw [if_neg hm, show i % 2 = 1 by omega]; rfl
 ·rw [List.getElem?_eq_none (by simp; omega), Array.getElem?_toList, Array.getElem?_eq_none (by omega)]; rfl
theorem heap_sortedK {w : World} {g n : Nat} {os : Array Obj} {cur : Array Value} {e : TypeId} {fr : Nat × Nat} (d : Array Value) (hb : w.heap[g]? = some (.cells cur e fr)) :
 (grow (putRow id (Sort.ahead w n) g 0 d) os).heap[g]? = some (.cells (putCells id 0 d cur) e fr) := by
 have hg : g < w.heap.size := (Array.getElem?_eq_some_iff.1 hb).1
 rw [Go.Sort.heap_grow_old _ _ (by simpa using hg)]
 simp [putRow, mapBlock, Sort.ahead, Array.getElem?_modify, hb, onCells]
theorem below_sortedK {w : World} {g n base : Nat} {os : Array Obj} (d : Array Value) (hb : base ≤ g) (hw : base ≤ w.heap.size) : Below base w (grow (putRow id (Sort.ahead w n) g 0 d) os) := by
 refine ⟨rfl, rfl, rfl, by simp, fun k hk => ?_⟩
 rw [Go.Sort.heap_grow_old _ _ (by simp; omega)]
 have : g ≠ k := by omega
 simp [putRow, mapBlock, Sort.ahead, Array.getElem?_modify, this]
theorem take_putCellsK (cur F : Array Value) (h : F.size ≤ cur.size) : (putCells id 0 F cur).toList.take F.size = F.toList := by
 apply List.ext_getElem?
 intro j
 by_cases hj : j < F.size
 ·rw [List.getElem?_take_of_lt hj, Array.getElem?_toList]
  simp [putCells, hj, show j < cur.size by omega]
 ·rw [List.getElem?_take_eq_none (by omega), List.getElem?_eq_none (by simp; omega)]
theorem permIn_all {d d' : Array (ByteArray × ByteArray)} (h : PermIn 0 d.size d d') : d'.size = d.size ∧ d'.toList.Perm d.toList := by
 obtain ⟨h1, _, h3⟩ := h
 refine ⟨h1, ?_⟩
 have e1 : d'.extract 0 d.size = d' := by rw [← h1]; simp
 have e2 : d.extract 0 d.size = d := by simp
 rwa [e1, e2] at h3
theorem sortedIn_all {d' : Array (ByteArray × ByteArray)} (h : SortedIn (ltOf cmpK) 0 d'.size d') : d'.toList.Pairwise (fun p q => leB (keyL p) (keyL q) = true) := by
 rw [List.pairwise_iff_getElem]
 intro i j hi hj hij
 have := h i j (Nat.zero_le _) hij (by simpa using hj)
 simp only [ltOf, decide_eq_false_iff_not, cmpK_neg, List.not_lt] at this
 rw [getElem!_pos _ _ (by simpa using hi), getElem!_pos _ _ (by simpa using hj)] at this
 simp only [leB, decide_eq_true_eq]
 simpa using this
theorem sorted_is {L M : List (ByteArray × ByteArray)} (hp : L.Perm M) (hs : L.Pairwise (fun p q => leB (keyL p) (keyL q) = true)) (nd : (M.map keyL).Nodup) : L = sortM M := by
 have nd2 : (L.map keyL).Nodup := ((hp.map keyL).nodup_iff).2 nd
 rw [← sortM_same nd2 nd (fun p => hp.mem_iff)]
 exact (List.mergeSort_of_pairwise hs).symm
theorem s_SortM (F : Nat) (g cap base : Nat) (d : Array (ByteArray × ByteArray)) (w : World) (cur : Array Value) (hb : base ≤ g) (hg : w.heap[g]? = some (.cells cur 39 (0, 0))) (h1 : d.size ≤ cap) (h2 : cap ≤ maxLen) (h3 : cur.size = cap * 2) (h4 : cur.toList.take (d.size * 2) = massC d.toList) (hs : d.size ≤ 1000) (hnd : (d.toList.map keyL).Nodup)
 (eg : ∀ args w, (callFunc F args).run Tryz.prog w = .ok (.enter F args) w) (hF : ∀ (x y : ByteArray × ByteArray) (W : World), Calls Tryz.prog F #[.agg #[.string x.1, .string x.2], .agg #[.string y.1, .string y.2]] W fun e w' => e = .returned (.int .i64 (cmpK x y)) ∧ ∃ n os', w' = grow (W.drewN n) os') :
 Calls Tryz.prog 37 #[.slice (some ⟨g, 0, none⟩) d.size cap, .func (.func F) #[] #[]] w fun e w' => e = .returned (.tuple #[]) ∧ w'.ownsRow base 39 2 (.slice (some ⟨g, 0, none⟩) d.size cap) d.size (massC (sortM d.toList)) ∧ Below base w w' := by
 have hblk : g < w.heap.size := (Array.getElem?_eq_some_iff.1 hg).1
 have hH : HoldsK encM 2 w g 0 d := by
  intro j hj
  have hj' : j < d.size * 2 := by simpa using hj
  refine ⟨?_, by simp [World.frozen?, hg]⟩
  have e : (cur.toList.take (d.size * 2))[j]? = (flatK encM 2 d).toList[j]? := by rw [h4, flatK_mass]
  rw [List.getElem?_take_of_lt hj'] at e
  simp only [World.cell?, hg, Nat.zero_add]
  simp only [Option.isSome_none, Bool.false_eq_true, if_false]
  rw [← Array.getElem?_toList, e, Array.getElem?_toList, Array.getElem?_eq_getElem hj, getElem!_pos (flatK encM 2 d) j hj]
  rfl
 have hcmp : CmpLays Tryz.prog F #[] encM 2 cmpK g 0 d.size w := fun _ _ _ _ x y => hF x y _
 have hd : ∀ x : ByteArray × ByteArray, (encM x).length = 2 := fun _ => rfl
 have h1c : ∀ x : ByteArray × ByteArray, ∀ v ∈ encM x, v.oneCell' = true := fun x v hv => by simp [encM] at hv; rcases hv with rfl | rfl <;> rfl
 have hlim : Lib.bitLen d.size < 4611686018427387904 := Nat.lt_of_le_of_lt (Lib.bitLen_le d.size 62 (by omega) (by omega)) (by omega)
 have hpd := AnyQ.pdqsortCmpFunc_all Tryz.sortMW 2 Tryz.isAgg39 Tryz.sizeOf39 encM cmpK F #[] swoM g 0 cap d w eg hcmp ⟨hd, h1c, hH, hblk⟩ (d.size + 1) 0 d.size (Lib.bitLen d.size) d w (by omega) rfl (SWK.start hH) (Nat.zero_le _) (Nat.le_refl _) (by omega) hlim (Or.inl rfl)
 change Calls Tryz.prog 87 _ _ _ at hpd
 have hbl : Calls Tryz.prog 88 #[.int .u64 (d.size : Int)] w fun e w' => e = .returned (.int .i64 (Lib.bitLen d.size : Nat)) ∧ w' = w := by
  have h := Any.bits_Len Tryz.lenW (d.size : Int) w (by omega) (by omega)
  rwa [Int.toNat_natCast] at h
 have wr : IntKind.u64.wrap (d.size : Int) = d.size := by simp [IntKind.wrap, IntKind.bits, IntKind.signed]; omega
 have hz := pdq_sorts (ltOf cmpK) swoM d 0 d.size (Lib.bitLen d.size) true true (Nat.zero_le _) (Nat.le_refl _) (Or.inl rfl)
 have P := permIn_all hz.1
 have hz2 := hz.2
 generalize pdq (ltOf cmpK) d 0 d.size (Lib.bitLen d.size) true true = d' at *
 have S := sortedIn_all (P.1 ▸ hz2)
 have hd' : d'.toList = sortM d.toList := sorted_is P.2 S hnd
 clear hH hcmp hz hz2 hF
 have h2h := hid h2; clear h2
 have h4h := hid h4; clear h4
 have HND := hid hnd; clear hnd
 go_enter Tryz.func37, Tryz.ntmps37
 go_wp2_with fail
 refine hbl.mono ?_; rintro e w' ⟨rfl, rfl⟩
 go_wp2_with fail
 refine hpd.mono ?_; rintro e w' ⟨rfl, n, os, rfl⟩
 go_wp2_with fail
 go_end0
 refine ⟨rfl, ⟨?_, .inr ⟨g, cap, _, rfl, hb, heap_sortedK _ hg, h1, h2h.out, by simp [putCells, h3], ?_⟩⟩, below_sortedK _ hb (by omega)⟩
 ·rw [massC_length, ← hd']; simp [P.1]
 ·rw [← hd', ← flatK_mass]
  have := take_putCellsK cur (flatK encM 2 d') (by rw [size_flatK, P.1, h3]; omega)
  rwa [size_flatK, P.1] at this
end Go.Proofs.YtckihjfkafdncaaGreatDoor
namespace Go.Proofs.YtckihjfkafdncaaGreatDoor
open Go.RowKit
open Go.Sort
open Go.Shelf
open Go.Maps
open Go.Lib (decDigits nDigits)
theorem s_ItoaZ (w : World) (v : Int) (h1 : -100000 ≤ v) (h2 : v ≤ 100000) (hL : Lay w) :
 Calls Tryz.prog 33 #[.int .i64 v] w fun e w' => e = .returned (.string (zB v)) ∧ Below w.heap.size w w' := by
 refine (Tryz.strconv_Itoa v (by omega) (by omega) w hL.tab).mono ?_
 rintro e w' ⟨rfl, k, os, rfl⟩
 exact ⟨rfl, below_grow w k os⟩
theorem sameKey_int (v x : Int) : (Lit.int .i64 v).sameKey (.int .i64 x) = decide (v = x) := by
 by_cases h : v = x
 ·subst h
  rw [WideAt.sameKey_self (show WideAt.IsKeyLit (.int .i64 v) from trivial)]; simp
 ·rw [Maps.sameKey_ne (fun e => h (by injection e))]; simp [h]
theorem less_bytes (x z : ByteArray) : Op.bytesLess x.toList z.toList = decide (x.data.toList < z.data.toList) := by
 rw [bytesLess_eq, Lib.toList_data, Lib.toList_data]
theorem s_isNaN (w : World) (x : ByteArray) : Calls Tryz.prog 89 #[.string x] w fun e w' => e = .returned (.bool false) ∧ w = w' := by
 have q1 : (x.toList != x.toList) = false := by simp
 have q2 : (x.toList == x.toList) = true := by simp
 go_enter Tryz.func89, Tryz.ntmps89
 go_wp2_with fail
 go_ret
 exact ⟨rfl, rfl⟩
theorem s_Compare (w : World) (x z : ByteArray) : Calls Tryz.prog 39 #[.string x, .string z] w fun e w' => e = .returned (.int .i64 (if x.data.toList < z.data.toList then -1 else if z.data.toList < x.data.toList then 1 else 0)) ∧ w = w' := by
 have h1 := less_bytes x z
 have h2 := less_bytes z x
 have N1 := fun V => hid (s_isNaN V x)
 have N2 := fun V => hid (s_isNaN V z)
 by_cases c1 : x.data.toList < z.data.toList
 ·rw [if_pos c1]
  rw [decide_eq_true c1] at h1
  clear h2 c1
  go_enter Tryz.func39, Tryz.ntmps39
  go_wp2_with fail
  refine (N1 _).out.mono ?_; rintro e w1 ⟨rfl, rfl⟩
  go_wp2_with fail
  refine (N2 _).out.mono ?_; rintro e w1 ⟨rfl, rfl⟩
  go_wp2_with fail
  go_ret
  exact ⟨rfl, rfl⟩
 ·rw [if_neg c1]
  rw [decide_eq_false c1] at h1
  by_cases c2 : z.data.toList < x.data.toList
  ·rw [if_pos c2]
   rw [decide_eq_true c2] at h2
   have h3 : (x.toList == z.toList) = false := by
    rw [beq_eq_false_iff_ne]
    intro e
    rw [Lib.toList_data, Lib.toList_data] at e
    rw [e] at c2
    exact List.lt_irrefl _ c2
   clear c1 c2
   go_enter Tryz.func39, Tryz.ntmps39
   go_wp2_with fail
   refine (N1 _).out.mono ?_; rintro e w1 ⟨rfl, rfl⟩
   go_wp2_with fail
   refine (N2 _).out.mono ?_; rintro e w1 ⟨rfl, rfl⟩
   go_wp2_with fail
   go_ret
   exact ⟨rfl, rfl⟩
  ·rw [if_neg c2]
   rw [decide_eq_false c2] at h2
   have h3 : (x.toList == z.toList) = true := by
    rw [beq_iff_eq, Lib.toList_data, Lib.toList_data]
    exact List.le_antisymm (List.not_lt.1 c2) (List.not_lt.1 c1)
   clear c1 c2
   go_enter Tryz.func39, Tryz.ntmps39
   go_wp2_with fail
   refine (N1 _).out.mono ?_; rintro e w1 ⟨rfl, rfl⟩
   go_wp2_with fail
   refine (N2 _).out.mono ?_; rintro e w1 ⟨rfl, rfl⟩
   go_wp2_with fail
   go_ret
   exact ⟨rfl, rfl⟩
theorem g_order (p q : ByteArray × ByteArray) (w : World) : Calls Tryz.prog 183 #[.agg #[.string p.1, .string p.2], .agg #[.string q.1, .string q.2]] w fun e w' => e = .returned (.int .i64 (cmpK p q)) ∧ ∃ n os', w' = grow (w.drewN n) os' := by
 obtain ⟨p1, p2⟩ := p
 obtain ⟨q1, q2⟩ := q
 dsimp only
 have HC := fun V => hid (s_Compare V p1 q1)
 unfold cmpK keyL
 dsimp only
 obtain ⟨r, hr⟩ : ∃ r : Int, (if p1.data.toList < q1.data.toList then (-1 : Int) else if q1.data.toList < p1.data.toList then 1 else 0) = r := ⟨_, rfl⟩
 rw [hr] at HC ⊢
 clear hr
 go_enter Tryz.func183, Tryz.ntmps183
 go_wp2_with fail
 refine (HC _).out.mono ?_; rintro e w1 ⟨rfl, rfl⟩
 go_wp2_with fail
 go_ret
 exact ⟨rfl, 0, _, by rw [alloc_eq_grow, alloc_eq_grow, grow_grow]; rfl⟩
end Go.Proofs.YtckihjfkafdncaaGreatDoor
namespace Go.Proofs.YtckihjfkafdncaaGreatDoor
open Go.RowKit
open Go.Maps
open Go.Lib (decDigits nDigits)
structure ReadsI {H : Type} (D : DataW H) (c : Int → Nat) : Prop where
 map : IsMap D
 has : ∀ v : Int, Maps.has D (.int .i64 v) = decide (c v ≠ 0)
 look : ∀ v : Int, c v ≠ 0 → ∀ z, D.atKey (.int .i64 v) z = .lit (.string (numB (c v)).data.toList)
theorem ReadsI.nil {H : Type} : ReadsI (.map [] : DataW H) (fun _ => 0) :=
 ⟨isMap_empty, fun v => by simp [Maps.has_eq], fun v h => absurd rfl h⟩
theorem ReadsI.put {H : Type} {D : DataW H} {c : Int → Nat} (h : ReadsI D c) (v : Int) {x : Nat} (hx : 0 < x) :
 ReadsI (D.put (.int .i64 v) (.lit (.string (numB (c v + x)).data.toList))) (addM c v x) := by
 refine ⟨h.map.put _ _, fun y => ?_, fun y hy z => ?_⟩
 ·by_cases e : y = v
  ·subst e
   rw [has_put_same h.map (show WideAt.IsKeyLit (.int .i64 y) from trivial)]
   unfold addM
   rw [if_pos rfl]
   simp; omega
  ·rw [has_put_other (fun e' => e (by injection e')), h.has]
   unfold addM
   rw [if_neg e]
 ·by_cases e : y = v
  ·subst e
   rw [atKey_put_same h.map (show WideAt.IsKeyLit (.int .i64 y) from trivial)]
   unfold addM
   rw [if_pos rfl]
  ·unfold addM at hy ⊢
   rw [if_neg e] at hy ⊢
   rw [atKey_put_other (fun e' => e (by injection e'))]
   exact h.look y hy z
def cellB (x : Nat) : ByteArray := if x = 0 then ⟨#[]⟩ else numB x
theorem look_i {H : Type} {w : World} {B nn : Nat} {D : DataW H} {c : Int → Nat} (hown : w.ownsMap Tryz.prog 3 (plainElem Tryz.prog 22) B nn D) (hR : ReadsI D c) {v : Int} (hw : (Lit.int .i64 v).wf = true) :
 (Instr.lookup 198 (.map (some B)) (.int .i64 v) false).run Tryz.prog w = .ok (.string (cellB (c v))) w := by
 obtain ⟨x, ps, h1, h2⟩ := hown.lookup (int_keyed Tryz.underlying3) Tryz.underlying198 (zero_num w) (plainElem_string Tryz.underlying22 (s := ⟨#[]⟩) (Nat.zero_le _)) (keyOf_int_mk Tryz.underlying3 hw)
 rw [h1]
 unfold cellB
 by_cases h0 : c v = 0
 ·rw [if_pos h0]
  rw [atKey_of_not_has (by rw [hR.has, h0]; rfl)] at h2
  obtain ⟨s, rfl, h3, -⟩ := plainElem_string_inv Tryz.underlying22 h2
  simp only [Prod.mk.injEq, DataW.lit.injEq, Lit.string.injEq] at h3
  have e : s = (⟨#[]⟩ : ByteArray) := ba_ext (by simpa using h3.1.symm)
  rw [e]
 ·rw [if_neg h0]
  rw [hR.look v h0] at h2
  obtain ⟨s, rfl, h3, -⟩ := plainElem_string_inv Tryz.underlying22 h2
  simp only [Prod.mk.injEq, DataW.lit.injEq, Lit.string.injEq] at h3
  rw [ba_ext h3.1]
end Go.Proofs.YtckihjfkafdncaaGreatDoor
namespace Go.Proofs.YtckihjfkafdncaaGreatDoor
open Go.RowKit
open Go.Shelf
open Go.Lib (decDigits nDigits)
def rowV (n g : Nat) : Value := .slice (some ⟨g, 0, none⟩) (n + 1) (n + 1)
structure TabR (W : World) (gt n : Nat) (f : Nat → List Nat) : Prop where
 len : ∀ i, i ≤ n → (f i).length = n + 1
 ex : ∃ g c, n + 1 ≤ c ∧ c ≤ 9223372036854775807 ∧ W.cell? ⟨gt, 0, none⟩ = some (.slice (some ⟨g, 0, none⟩) (n + 1) c) ∧ W.cell? ⟨gt, 1, none⟩ = some (.string ⟨#[48]⟩) ∧ ∀ i, i ≤ n → ∃ gr, W.cell? ⟨g, i, none⟩ = some (rowV n gr) ∧ NRowT W gr (f i)
theorem TabR.call {W W' : World} {gt n : Nat} {f : Nat → List Nat} (h : TabR W gt n f) (hb : Below W.heap.size W W') : TabR W' gt n f := by
 obtain ⟨h0, g, c, h1, h2, h3, h4, h5⟩ := h
 refine ⟨h0, g, c, h1, h2, (hb.cell (cell_lt h3)).trans h3, (hb.cell (cell_lt h4)).trans h4, fun i hi => ?_⟩
 obtain ⟨gr, k1, k2⟩ := h5 i hi
 exact ⟨gr, (hb.cell (cell_lt k1)).trans k1, k2.call hb⟩
theorem tb_at (w : World) (gt n i k : Nat) (f : Nat → List Nat) (h : TabR w gt n f) (hi : i ≤ n) (hk : k ≤ n) (hn : n ≤ 100000) :
 Calls Tryz.prog 244 #[.pointer (some ⟨gt, 0, none⟩), .int .i64 (i : Nat), .int .i64 (k : Nat)] w fun e w' => e = .returned (.string (numB ((f i).getD k 0))) ∧ w = w' := by
 obtain ⟨h0, g, c, h1, h2, r0, r1, h5⟩ := h
 obtain ⟨gr, r2, k2⟩ := h5 i hi
 have r3 := k2.cell (i := k) (by rw [h0 i hi]; omega)
 unfold rowV at r2
 obtain ⟨X, hX⟩ : ∃ s, numB ((f i).getD k 0) = s := ⟨_, rfl⟩
 rw [hX] at r3 ⊢
 have b1 : (0 : Int) ≤ (i : Int) := by omega
 have b2 : (i : Int) < ((n + 1 : Nat) : Int) := by omega
 have b3 : (0 : Int) ≤ (k : Int) := by omega
 have b4 : (k : Int) < ((n + 1 : Nat) : Int) := by omega
 obtain ⟨m, hm⟩ : ∃ m, n + 1 = m := ⟨_, rfl⟩
 rw [hm] at r0 r2 b2 b4 h1
 have t1 : decide ((i : Int) < 0) = false := by simp
 have t2 : decide (m ≤ i) = false := by simp; omega
 have t3 : decide ((k : Int) < 0) = false := by simp
 have t4 : decide (m ≤ k) = false := by simp; omega
 clear h0 h5 k2 hX hi hk hn hm
 go_enter Tryz.func244, Tryz.ntmps244
 go_wp2_with fail
 go_ret
 exact ⟨rfl, rfl⟩
structure TabO (W : World) (H gt : Nat) (rv : Value) (gs : List Nat) (n r : Nat) (f : Nat → List Nat) : Prop where
 blk : Blk W gt #[rv, .string ⟨#[48]⟩] 260
 own : W.ownsRow H 60 1 rv gs.length (gs.map (rowV n))
 rows : ∀ i g, i < r → gs[i]? = some g → NRowT W g (f i)
 ne : rv.ownBlock ≠ some gt
 sep : ∀ i g, i < r → gs[i]? = some g → rv.ownBlock ≠ some g
 gne : ∀ i g, i < r → gs[i]? = some g → g ≠ gt
theorem NRowT.lt' {w : World} {g : Nat} {l : List Nat} (h : NRowT w g l) : g < w.heap.size := Blk.lt h
theorem owns_set {W : World} {H : Nat} {e : TypeId} {rv : Value} {n : Nat} {xs : List Value} (h : W.ownsRow H e 1 rv n xs) {a : Addr} (h2 : rv.ownBlock ≠ some a.block) (v : Value) : (W.setCell a v).ownsRow H e 1 rv n xs := by
 refine ⟨h.1, ?_⟩
 rcases h.2 with h0 | ⟨g, cap, cur, rfl, k1, k2, k3⟩
 ·exact .inl h0
 ·refine .inr ⟨g, cap, cur, rfl, k1, ?_, k3⟩
  have hg : g ≠ a.block := fun e => h2 (by rw [← e]; rfl)
  rw [← k2]
  unfold World.setCell
  simp [Array.getElem?_modify, Ne.symm hg]
theorem TabO.call {W W' : World} {H gt : Nat} {rv : Value} {gs : List Nat} {n r : Nat} {f : Nat → List Nat} (h : TabO W H gt rv gs n r f) (hb : Below W.heap.size W W') : TabO W' H gt rv gs n r f :=
 ⟨h.blk.call hb, owns_call h.own hb, fun i g hi hg => (h.rows i g hi hg).call hb, h.ne, h.sep, h.gne⟩
theorem TabO.other {W : World} {H gt : Nat} {rv : Value} {gs : List Nat} {n r : Nat} {f : Nat → List Nat} (h : TabO W H gt rv gs n r f) {a : Addr} (h1 : a.block ≠ gt) (h2 : rv.ownBlock ≠ some a.block) (h3 : ∀ i g, i < r → gs[i]? = some g → a.block ≠ g) (v : Value) : TabO (W.setCell a v) H gt rv gs n r f := by
 exact ⟨h.blk.other h1 v, owns_set h.own h2 v, fun i g hi hg => (h.rows i g hi hg).other (h3 i g hi hg) v, h.ne, h.sep, h.gne⟩
structure KpR (gt : Nat) (rb : Option Nat) (W W' : World) : Prop where
 os : W'.os = W.os
 tape : W'.tape = W.tape
 output : W'.output = W.output
 size : W.heap.size ≤ W'.heap.size
 block : ∀ i, i < W.heap.size → i ≠ gt → some i ≠ rb → W'.heap[i]? = W.heap[i]?
theorem TabO.drew {W : World} {H gt : Nat} {rv : Value} {gs : List Nat} {n r : Nat} {f : Nat → List Nat} (h : TabO W H gt rv gs n r f) : TabO W.drew H gt rv gs n r f := ⟨h.blk, h.own, h.rows, h.ne, h.sep, h.gne⟩
theorem KpR.drew {gt : Nat} {rb : Option Nat} {W W' : World} (h : KpR gt rb W W') : KpR gt rb W W'.drew := ⟨h.os, h.tape, h.output, h.size, h.block⟩
theorem info_nums : (Tryz.prog.info? 60).map (fun i => (i.zero, i.size, i.bytes)) = some (some (.slice none 0 0), 1, 24) := by kernel_rfl
theorem tb_row (w : World) (H gt : Nat) (rv : Value) (gs : List Nat) (n r : Nat) (f : Nat → List Nat) (h : TabO w H gt rv gs n r f) (hr : r ≤ gs.length) (hgs : gs.length ≤ 1000) (hn : n ≤ 1000) (hH : H ≤ w.heap.size) :
 Calls Tryz.prog 276 #[.pointer (some ⟨gt, 0, none⟩), .int .i64 ((n + 1 : Nat) : Int)] w fun e w' => ∃ g rv', e = .returned (rowV n g) ∧ w.heap.size ≤ g ∧ NRowT w' g (List.replicate (n + 1) 0) ∧ TabO w' H gt rv' (gs ++ [g]) n r f ∧ rv'.ownBlock ≠ some g ∧ (rv'.ownBlock = rv.ownBlock ∨ ∃ b, rv'.ownBlock = some b ∧ w.heap.size ≤ b) ∧ KpR gt rv.ownBlock w w' := by
 obtain ⟨i0, hi, hz0, hz1, hz2⟩ := info_parts info_nums
 have HR := fun V g h => hid (s_Repeat V g (n + 1) ⟨#[48]⟩ (by omega) (by omega) h)
 have hgt : gt < w.heap.size := h.blk.lt
 have r0 := h.blk.cell 0
 have r1 := h.blk.cell 1
 simp at r0 r1
 have T0 := hid h
 have HGT := hid hgt; have HHS := hid hH; have HGS := hid hgs; have HRL := hid hr
 obtain ⟨ar, cr, hrv⟩ := owns_ex h.own
 obtain ⟨L, hL⟩ : ∃ L, gs.length = L := ⟨_, rfl⟩
 have HLL := hid hL
 obtain ⟨m, hm⟩ : ∃ m, n + 1 = m := ⟨_, rfl⟩
 have HM := hid hm
 have KK : Hid (∀ W, Below w.heap.size w W → W.cell? ⟨gt, 0, none⟩ = some rv ∧ W.cell? ⟨gt, 1, none⟩ = some (.string ⟨#[48]⟩)) := fun W hW => ⟨(hW.cell (cell_lt r0)).trans r0, (hW.cell (cell_lt r1)).trans r1⟩
 rw [hm] at HR ⊢
 have HRV := hid hrv
 clear h hgt hH hgs hr hL hm hrv hn
 go_enter Tryz.func276, Tryz.ntmps276
 go_wp2_with fail
 refine held_lasts 14 3 [0, 1, 2, 3, 4, 5, 6, 7, 8, 10] 4 (fun W' => W'.cell? ⟨gt, 0, none⟩ = some rv ∧ W'.cell? ⟨gt, 1, none⟩ = some (.string ⟨#[48]⟩)) (by kernel_rfl) rfl (by kernel_rfl) (by kernel_rfl) (by kernel_rfl) (by kernel_rfl) (KK.out _ (Below.refl _ _).drew) ?_
 iterate 10
  refine ⟨_, rfl, ?_⟩
  apply Exists.intro
  refine ⟨.inl ⟨by rfl, ?_⟩, ?_⟩
  ·(intro W' hW'; obtain ⟨q1, q2⟩ := hW'; go_simp; try (with_reducible rfl))
  (dsimp only [Act.put]; try simp only [List.setIfInBounds_toArray, List.set_cons_zero, List.set_cons_succ])
 refine held_one (i := 9) (by kernel_rfl) (by rfl) (by rfl) ?_
 go_wp2_with fail
 have A1 := hid (show Below w.heap.size w (w.alloc (.cells #[.string ⟨#[48]⟩] 22)).drew from ((Below.refl _ _).alloc (Nat.le_refl _) _).drew)
 have C1 : (w.alloc (.cells #[.string ⟨#[48]⟩] 22)).drew.cell? ⟨w.heap.size, 0, none⟩ = some (.string ⟨#[48]⟩) := (Blk.new w #[.string ⟨#[48]⟩] 22).cell 0
 refine ⟨KK.out _ A1.out, ?_⟩
 refine held_one (i := 11) (by kernel_rfl) (by rfl) (by rfl) ?_
 go_wp2_with fail
 refine (HR _ _ C1).out.mono ?_; rintro e w2 ⟨rfl, hg, hb⟩
 obtain ⟨g, hgg⟩ : ∃ g, (w.alloc (.cells #[.string ⟨#[48]⟩] 22)).drew.heap.size = g := ⟨_, rfl⟩
 have B2 := hid (bnext A1.out hb)
 rw [hgg] at hg ⊢
 have HG : Hid (w.heap.size < g) := by rw [← hgg]; show _ < _; simp
 have R2 := hid (NRowT.zeros hg)
 have L2 := hid (show g < w2.heap.size from hg.lt)
 clear hg hb hgg C1
 go_wp2_with fail
 refine ⟨KK.out _ B2.out, ?_⟩
 refine held_one (i := 12) (by kernel_rfl) (by rfl) (by rfl) ?_
 go_wp2_with fail
 have A3 := hid (show Below w.heap.size w (w2.alloc (.cells #[.slice (some ⟨g, 0, none⟩) m m] 60)) from B2.out.alloc B2.out.size _)
 refine ⟨KK.out _ A3.out, ?_⟩
 refine held_one (i := 13) (by kernel_rfl) (by rfl) (by rfl) ?_
 have O3 := hid (((T0.out.call B2.out).own).alloc (.cells #[.slice (some ⟨g, 0, none⟩) m m] 60))
 refine wpList_append_own_at _ rfl _ _ 258 rfl H 60 i0 (.slice none 0 0) 1 24 Tryz.underlying258 hi hz0 hz1 hz2 rfl (by decide) rv gs.length (gs.map (rowV n)) rfl O3.out ⟨w2.heap.size, 0, none⟩ 1 1 [.slice (some ⟨g, 0, none⟩) m m] rfl rfl (cell_one_new w2 (.slice (some ⟨g, 0, none⟩) m m) 60) (by simp [Value.oneCell']) (by have := HGS.out; unfold maxLen; omega) (by have := HGS.out; omega) (by have := HHS.out; have := B2.out.size; simp; omega) ?_
 intro rv' w3 hown3 hgrow3 _ hat3
 have hat4 : rv'.ownBlock = rv.ownBlock ∨ rv'.ownBlock = some (w2.heap.size + 1) := by simpa using hat3
 have OW := hid hown3; have GR := hid hgrow3; have AT := hid hat4
 clear hown3 hgrow3 hat3 hat4
 have c30 : w3.cell? ⟨gt, 0, none⟩ = some rv := by
  have := GR.out.cell (KK.out _ A3.out).1 (fun e => T0.out.ne e.symm)
  exact this
 have c31 : w3.cell? ⟨gt, 1, none⟩ = some (.string ⟨#[48]⟩) := GR.out.cell (KK.out _ A3.out).2 (fun e => T0.out.ne e.symm)
 have X3 : Hid (Blk w3 gt #[rv, .string ⟨#[48]⟩] 260) := ((T0.out.blk.call B2.out).alloc _).grown GR.out (fun e => T0.out.ne e)
 go_wp2_with fail
 refine ⟨⟨c30, c31⟩, ?_⟩
 refine wpAnyH_done (by kernel_rfl) ?_ _
 simp only [Only, ThenL, List.drop_succ_cons, List.drop_zero]
 have f3 := X3.out.free 0
 have NE3 : Hid (rv'.ownBlock ≠ some gt) := by
  rcases AT.out with e | e
  ·show rv'.ownBlock ≠ some gt
   rw [e]; exact T0.out.ne
  ·show rv'.ownBlock ≠ some gt
   rw [e]; intro hh; have := Option.some.inj hh; have := HGT.out; have := B2.out.size; omega
 have NEG : Hid (rv'.ownBlock ≠ some g) := by
  rcases AT.out with e | e
  ·show rv'.ownBlock ≠ some g
   rw [e]; intro hh; have := (T0.out.own.lt g hh).2; have := HG.out; omega
  ·show rv'.ownBlock ≠ some g
   rw [e]; intro hh; have := Option.some.inj hh; have := L2.out; omega
 have AT2 : Hid (rv'.ownBlock = rv.ownBlock ∨ ∃ b, rv'.ownBlock = some b ∧ w.heap.size ≤ b) := AT.out.imp id fun e => ⟨_, e, Nat.le_succ_of_le B2.out.size⟩
 have KP : Hid (KpR gt rv.ownBlock w w3) := ⟨GR.out.os.trans A3.out.os, GR.out.tape.trans A3.out.tape, GR.out.output.trans A3.out.output, Nat.le_trans A3.out.size GR.out.size, fun i hi _ h2 => (GR.out.block i (by have := A3.out.size; omega) h2).trans (A3.out.block i hi)⟩
 have N3 : Hid (NRowT w3 g (List.replicate m 0)) := Blk.grown (Blk.alloc R2.out _) GR.out (fun e => by have := (T0.out.own.lt g e).2; have := HG.out; omega)
 have RO : Hid (∀ i g', i < r → gs[i]? = some g' → NRowT w3 g' (f i)) := fun i g' hi2 hg' => Blk.grown (Blk.alloc ((T0.out.rows i g' hi2 hg').call B2.out) _) GR.out (T0.out.sep i g' hi2 hg')
 have GSR : Hid (∀ i g', i < r → gs[i]? = some g' → g' ≠ gt) := fun i g' hi2 hg' => T0.out.gne i g' hi2 hg'
 obtain ⟨gr, cap, rfl⟩ := ownsRow_succ OW.out
 have HGR : Hid (gr ≠ gt) := fun e => NE3.out (by rw [e]; rfl)
 go_wp2_with fail
 try simp only [Only]
 obtain ⟨w4, hw4⟩ : ∃ W, w3.setCell ⟨gt, 0, none⟩ (.slice (some ⟨gr, 0, none⟩) (gs.length + 1) cap) = W := ⟨_, rfl⟩
 have T4 : Hid (TabO w4 H gt (.slice (some ⟨gr, 0, none⟩) (gs.length + 1) cap) (gs ++ [g]) n r f) := by
  refine ⟨?_, ?_, fun i g' hi2 hg' => ?_, NE3.out, ?_, ?_⟩
  ·rw [← hw4]; exact X3.out.set 0 _
  ·rw [← hw4, List.length_append, List.map_append]
   have hl : (gs.map (rowV n) ++ [Value.slice (some ⟨g, 0, none⟩) m m]) = gs.map (rowV n) ++ [g].map (rowV n) := by rw [← HM.out]; rfl
   rw [← hl]
   exact owns_set OW.out (fun e => HGR.out (by simpa [Value.ownBlock] using e)) _
  ·have hlt : i < gs.length := Nat.lt_of_lt_of_le hi2 HRL.out
   rw [List.getElem?_append_left hlt] at hg'
   rw [← hw4]
   exact (RO.out i g' hi2 hg').other (GSR.out i g' hi2 hg').symm _
  ·intro i g' hi2 hg'
   have hlt : i < gs.length := Nat.lt_of_lt_of_le hi2 HRL.out
   rw [List.getElem?_append_left hlt] at hg'
   rcases AT.out with e | e
   ·rw [e]; exact T0.out.sep i g' hi2 hg'
   ·rw [e]; intro hh; have := Option.some.inj hh; have := (T0.out.rows i g' hi2 hg').lt'; have := B2.out.size; omega
  ·intro i g' hi2 hg'
   have hlt : i < gs.length := Nat.lt_of_lt_of_le hi2 HRL.out
   rw [List.getElem?_append_left hlt] at hg'
   exact T0.out.gne i g' hi2 hg'
 have N4 : Hid (NRowT w4 g (List.replicate m 0)) := by rw [← hw4]; exact N3.out.other (by have := HG.out; have := HGT.out; show gt ≠ g; omega) _
 have K4 : Hid (KpR gt rv.ownBlock w w4) := by
  rw [← hw4]
  refine ⟨KP.out.os, KP.out.tape, KP.out.output, by simpa [World.setCell] using KP.out.size, fun i hi h1 h2 => ?_⟩
  rw [← KP.out.block i hi h1 h2]
  unfold World.setCell
  simp [Array.getElem?_modify, Ne.symm h1]
 rw [hw4]
 have s0 := T4.out.blk.cell 0
 simp at s0
 have s1 : w4.cell? ⟨gr, gs.length, none⟩ = some (.slice (some ⟨g, 0, none⟩) m m) := by
  obtain ⟨g', o', e1, -, e2⟩ := (Row.of_owns T4.out.own).at (i := gs.length) (x := rowV n g) (by rw [List.map_append, List.getElem?_append_right (by simp)]; simp)
  simp only [Option.some.injEq, Addr.mk.injEq] at e1
  obtain ⟨rfl, rfl, -⟩ := e1
  rw [Nat.zero_add] at e2
  rw [e2, rowV, HM.out]
 have wl : IntKind.i64.wrap (((gs.length + 1 : Nat) : Int) - 1) = (gs.length : Int) := by rw [IntWalk.i64_in _ ⟨by omega, by have := HGS.out; omega⟩]; omega
 have wl2 : IntKind.i64.wrap ((gs.length : Int) + 1 - 1) = (gs.length : Int) := by rw [IntWalk.i64_in _ ⟨by omega, by have := HGS.out; omega⟩]; omega
 have b1 : (0 : Int) ≤ (gs.length : Int) := by omega
 have b2 : (gs.length : Int) < ((gs.length + 1 : Nat) : Int) := by omega
 have wl3 : IntKind.i64.wrap (gs.length : Int) = (gs.length : Int) := by rw [IntWalk.i64_in _ ⟨by omega, by have := HGS.out; omega⟩]
 have b3 : (gs.length : Int) < (gs.length : Int) + 1 := by omega
 clear hw4 c30 c31 f3
 refine held_plain [0, 1, 2, 3, 4, 5, 6, 7, 8, 9, 10, 11, 12] 0 (fun W' => W'.cell? ⟨gt, 0, none⟩ = some (.slice (some ⟨gr, 0, none⟩) (gs.length + 1) cap) ∧ W'.cell? ⟨gr, gs.length, none⟩ = some (.slice (some ⟨g, 0, none⟩) m m)) (by kernel_rfl) (by kernel_rfl) (by kernel_rfl) (by kernel_rfl) ⟨s0, s1⟩ ?_
 iterate 13
  refine ⟨_, rfl, ?_⟩
  apply Exists.intro
  refine ⟨.inl ⟨by rfl, ?_⟩, ?_⟩
  ·(intro W' hW'; obtain ⟨q3, q4⟩ := hW'; go_simp; try (with_reducible rfl))
  (dsimp only [Act.put]; try simp only [List.setIfInBounds_toArray, List.set_cons_zero, List.set_cons_succ])
 refine wpAnyH_done (by kernel_rfl) ?_ _
 simp only [Only]
 go_wp2_with fail
 go_ret
 refine ⟨g, _, by rw [rowV, HM.out]; rfl, Nat.le_of_lt HG.out, N4.out, T4.out.drew, NEG.out, AT2.out, K4.out.drew⟩
structure EnS (W : World) (gt gO gN gD g1 g2 n r : Nat) (rv : Value) (gs : List Nat) (O nx dn : List Nat) (os zs : Nat → Bool) (f : Nat → List Nat) : Prop where
 tab : TabO W (gt + 1) gt rv (gs ++ [gD]) n r f
 o : NRowT W gO O
 nx : NRowT W gN nx
 dn : NRowT W gD dn
 b1 : Blk W g1 (allB os n).toArray 4
 b2 : Blk W g2 (allB zs n).toArray 4
structure EnD (gt gO gN gD g1 g2 r : Nat) (rv : Value) (gs : List Nat) : Prop where
 tN : gN ≠ gt
 tD : gD ≠ gt
 rN : rv.ownBlock ≠ some gN
 rD : rv.ownBlock ≠ some gD
 ND : gN ≠ gD
 oN : gO ≠ gN
 oD : gO ≠ gD
 n1 : gN ≠ g1
 n2 : gN ≠ g2
 d1 : gD ≠ g1
 d2 : gD ≠ g2
 sN : ∀ i g, i < r → (gs ++ [gD])[i]? = some g → gN ≠ g
 sD : ∀ i g, i < r → (gs ++ [gD])[i]? = some g → gD ≠ g
theorem EnS.call {W W' : World} {gt gO gN gD g1 g2 n r : Nat} {rv : Value} {gs : List Nat} {O nx dn : List Nat} {os zs : Nat → Bool} {f : Nat → List Nat} (h : EnS W gt gO gN gD g1 g2 n r rv gs O nx dn os zs f) (hb : Below W.heap.size W W') : EnS W' gt gO gN gD g1 g2 n r rv gs O nx dn os zs f :=
 ⟨h.tab.call hb, h.o.call hb, h.nx.call hb, h.dn.call hb, h.b1.call hb, h.b2.call hb⟩
theorem EnS.setN {W : World} {gt gO gN gD g1 g2 n r : Nat} {rv : Value} {gs : List Nat} {O nx dn : List Nat} {os zs : Nat → Bool} {f : Nat → List Nat} (h : EnS W gt gO gN gD g1 g2 n r rv gs O nx dn os zs f) (d : EnD gt gO gN gD g1 g2 r rv gs) (i x : Nat) : EnS (W.setCell ⟨gN, i, none⟩ (.string (numB x))) gt gO gN gD g1 g2 n r rv gs O (nx.set i x) dn os zs f :=
 ⟨h.tab.other d.tN d.rN d.sN _, h.o.other d.oN.symm _, h.nx.set i x, h.dn.other d.ND _, h.b1.other d.n1 _, h.b2.other d.n2 _⟩
theorem EnS.setD {W : World} {gt gO gN gD g1 g2 n r : Nat} {rv : Value} {gs : List Nat} {O nx dn : List Nat} {os zs : Nat → Bool} {f : Nat → List Nat} (h : EnS W gt gO gN gD g1 g2 n r rv gs O nx dn os zs f) (d : EnD gt gO gN gD g1 g2 r rv gs) (i x : Nat) : EnS (W.setCell ⟨gD, i, none⟩ (.string (numB x))) gt gO gN gD g1 g2 n r rv gs O nx (dn.set i x) os zs f :=
 ⟨h.tab.other d.tD d.rD d.sD _, h.o.other d.oD.symm _, h.nx.other d.ND.symm _, h.dn.set i x, h.b1.other d.d1 _, h.b2.other d.d2 _⟩
theorem pass_bd {c : Nat → Bool} {N D n r : Nat} {F : Nat → Nat} (hn : n ≤ 32) (hr : r ≤ 32) (hF : aOut c (opnL N D n r) n (n + 1) = fnL F n) (hB : ∀ s, s ≤ n → F s ≤ 2 ^ (6 * (r + 1))) {i j k : Nat} (hi : i ≤ n) (hij : i + j ≤ n + 1) (hk : k ≤ n) : (aIn c ((opnL N D n r).getD i 0) i j (aOut c (opnL N D n r) n i)).getD k 0 ≤ 2 ^ 200 := by
 refine Nat.le_trans (aIn_le hi hij hk) ?_
 rw [hF, fnL_get hk]
 exact Nat.le_trans (hB k hk) (Nat.pow_le_pow_right (by omega) (by omega))
def EndsOut (w : World) (n N D : Nat) (e : Ending) (w' : World) : Prop := ∃ gt, e = .returned (.pointer (some ⟨gt, 0, none⟩)) ∧ w.heap.size ≤ gt ∧ TabR w' gt n (ednL N D n)
theorem blk_keep {w w' : World} {g : Nat} {cs : Array Value} {t : TypeId} (h : Blk w g cs t) (e : w'.heap[g]? = w.heap[g]?) : Blk w' g cs t := e.trans h
theorem tabR_of {W : World} {H gt : Nat} {rv : Value} {gs : List Nat} {n : Nat} {f : Nat → List Nat} (h : TabO W H gt rv gs n (n + 1) f) (hl : gs.length = n + 1) (hf : ∀ i, (f i).length = n + 1) (hn : n ≤ 1000) : TabR W gt n f := by
 obtain ⟨g, cap, rfl⟩ : ∃ g c, rv = .slice (some ⟨g, 0, none⟩) (n + 1) c := by
  have := h.own
  rw [hl] at this
  exact ownsRow_succ this
 obtain ⟨a, c, e, h1, h2, h3⟩ := (Row.of_owns h.own).ex
 simp only [Value.slice.injEq] at e
 obtain ⟨rfl, -, rfl⟩ := e
 rw [List.length_map, hl] at h1
 have c0 := h.blk.cell 0
 have c1 := h.blk.cell 1
 simp at c0 c1
 refine ⟨fun i _ => hf i, g, cap, h1, by unfold maxLen at h2; omega, c0, c1, fun i hi => ?_⟩
 obtain ⟨gr, hgr⟩ : ∃ g, gs[i]? = some g := ⟨_, List.getElem?_eq_getElem (by omega)⟩
 obtain ⟨g', o', e1, -, e2⟩ := h3 i (rowV n gr) (by rw [List.getElem?_map, hgr]; rfl)
 simp only [Option.some.injEq, Addr.mk.injEq] at e1
 obtain ⟨rfl, rfl, -⟩ := e1
 rw [Nat.zero_add] at e2
 exact ⟨gr, e2, h.rows i gr (by omega) hgr⟩
theorem g_ends (w : World) (a : ByteArray) (n N D : Nat) (ha : a.size ≤ 100000) (he : gPE a = 0) (hn : n ≤ 32) (hN : bN (cW a) = N) (hD : bN (qD a) = D) (hND : N < D) (hL : Lay w) :
 Calls Tryz.prog 243 #[.string a, .int .i64 n] w fun e w' => EndsOut w n N D e w' ∧ Below w.heap.size w w' := by
 have HS := hid (g_sides w a n N D ha he (by omega) hN hD hND hL)
 have HR := fun V g h => hid (s_Repeat V g (n + 1) ⟨#[48]⟩ (by omega) (by omega) h)
 have HTR := fun V gt rv gs r f (h : TabO V (gt + 1) gt rv gs n r f) (h1 : r ≤ gs.length) (h2 : gs.length ≤ 1000) (h3 : gt + 1 ≤ V.heap.size) => hid (tb_row V (gt + 1) gt rv gs n r f h h1 h2 (by omega) h3)
 have HL := hid hL; have HLL := hid hL.lt; have HN := hid hn
 have wn : IntKind.i64.wrap ((n : Int) + 1) = ((n + 1 : Nat) : Int) := by rw [IntWalk.i64_in _ ⟨by omega, by omega⟩]; omega
 have NX : Hid (∀ r, aOut (oneJ N D) (opnL N D n r) n (n + 1) = opnL N D n (r + 1)) := fun r => opnL_succ N D n r
 have DN : Hid (∀ r, aOut (zeroJ N D) (opnL N D n r) n (n + 1) = ednL N D n r) := fun r => ednL_is N D n r
 have BN : Hid (∀ r i j k, r ≤ n → i ≤ n → i + j ≤ n + 1 → k ≤ n → (aIn (oneJ N D) ((opnL N D n r).getD i 0) i j (aOut (oneJ N D) (opnL N D n r) n i)).getD k 0 ≤ 2 ^ 200) := fun r i j k h1 h2 h3 h4 => pass_bd (F := opn N D (r + 1)) hn (by omega) (opnL_succ N D n r) (fun s hs => opn_bd hn (r + 1) s hs) h2 h3 h4
 have BD : Hid (∀ r i j k, r ≤ n → i ≤ n → i + j ≤ n + 1 → k ≤ n → (aIn (zeroJ N D) ((opnL N D n r).getD i 0) i j (aOut (zeroJ N D) (opnL N D n r) n i)).getD k 0 ≤ 2 ^ 200) := fun r i j k h1 h2 h3 h4 => pass_bd (F := edn N D r) hn (by omega) (ednL_is N D n r) (fun s hs => edn_bd hn r s hs) h2 h3 h4
 have BO : Hid (∀ r i, r ≤ n → i ≤ n → (opnL N D n r).getD i 0 ≤ 2 ^ 200) := fun r i h1 h2 => by
  unfold opnL
  rw [fnL_get h2]
  exact Nat.le_trans (opn_bd hn r i h2) (Nat.pow_le_pow_right (by omega) (by omega))
 have OZ : Hid ((List.replicate (n + 1) 0).set 0 1 = opnL N D n 0) := opnL_zero N D n
 have OL : Hid (∀ r, (opnL N D n r).length = n + 1) := fun r => fnL_length _ _
 obtain ⟨OF, hOF⟩ : ∃ F, opnL N D n = F := ⟨_, rfl⟩
 obtain ⟨EF, hEF⟩ : ∃ F, ednL N D n = F := ⟨_, rfl⟩
 obtain ⟨os, hos⟩ : ∃ f, oneJ N D = f := ⟨_, rfl⟩
 obtain ⟨zs, hzs⟩ : ∃ f, zeroJ N D = f := ⟨_, rfl⟩
 rw [hOF] at NX DN BN BD BO OZ OL
 rw [hEF] at DN
 rw [hos] at NX BN
 rw [hzs] at DN BD
 have HOS := hid hos; have HZS := hid hzs; have HEF := hid hEF
 clear ha he hn hN hD hND hL hos hzs hOF hEF
 go_enter Tryz.func243, Tryz.ntmps243
 go_wp2_with fail
 refine HS.out.mono ?_; rintro e w1 ⟨⟨v1, v2, rfl, ⟨g1, g2, rfl, rfl, h3, h4, h5, hg1, hg2⟩⟩, hb1⟩
 rw [HOS.out] at hg1
 rw [HZS.out] at hg2
 have G1 := hid hg1; have G2 := hid hg2; have B1 := hid hb1; have N1 := hid (show g1 < w1.heap.size from Blk.lt hg1); have N2 := hid (show g2 < w1.heap.size from Blk.lt hg2)
 have z1 := hid hb1.size
 clear hg1 hg2 hb1 h3 h4 h5 HS
 go_wp2_with fail
 have T1 := hid (Blk.new w1 #[.slice none 0 0, .string ⟨#[48]⟩] 260)
 have A1 := hid ((Below.refl w1.heap.size w1).alloc (Nat.le_refl _) (.cells #[.slice none 0 0, .string ⟨#[48]⟩] 260))
 obtain ⟨wt, hwt⟩ : ∃ W, w1.alloc (.cells #[.slice none 0 0, .string ⟨#[48]⟩] 260) = W := ⟨_, rfl⟩
 have zt : Hid (wt.heap.size = w1.heap.size + 1) := by show wt.heap.size = _; rw [← hwt]; simp
 rw [hwt] at T1 A1 ⊢
 obtain ⟨gt, hgt⟩ : ∃ g, w1.heap.size = g := ⟨_, rfl⟩
 have HGT := hid hgt
 have T1' : Hid (Blk wt gt #[.slice none 0 0, .string ⟨#[48]⟩] 260) := by show Blk _ _ _ _; rw [← hgt]; exact T1.out
 try rw [hgt]
 clear T1 hwt hgt
 have C0 : (wt.alloc (.cells #[.string ⟨#[48]⟩] 22)).cell? ⟨gt + 1, 0, none⟩ = some (.string ⟨#[48]⟩) := by
  have := (Blk.new wt #[.string ⟨#[48]⟩] 22).cell 0
  rw [show wt.heap.size = gt + 1 by rw [zt.out, HGT.out]] at this
  exact this
 refine (HR _ _ C0).out.mono ?_; rintro e w2 ⟨rfl, hg7, hb2⟩
 clear C0
 obtain ⟨g0, h7⟩ : ∃ g, (wt.alloc (.cells #[.string ⟨#[48]⟩] 22)).heap.size = g := ⟨_, rfl⟩
 rw [h7] at hg7 ⊢
 have R7 := hid (NRowT.zeros hg7)
 have a1 := (Below.refl wt.heap.size wt).alloc (Nat.le_refl _) (.cells #[.string ⟨#[48]⟩] 22)
 have b2 := hid (bnext a1 hb2)
 have K7 := hid (show wt.heap.size < g0 by rw [← h7]; simp)
 have L7 := hid (show g0 < w2.heap.size from Blk.lt hg7)
 have Bt := hid (bnext B1.out A1.out)
 have B2 := hid (bnext Bt.out b2.out)
 have G12 := hid ((G1.out.call A1.out).call b2.out); have G22 := hid ((G2.out.call A1.out).call b2.out)
 have T2 := hid (T1'.out.call b2.out)
 clear hg7 hb2 a1 h7
 have k0 : w2.cell? ⟨g0, 0, none⟩ = some (.string ⟨#[48]⟩) := by
  refine (R7.out.cell (i := 0) (by simp)).trans ?_
  rw [← numB_zero]; simp [List.getD_eq_getElem?_getD]
 have k1 := R7.out.free 0
 have z0 : (0 : Int) < ((n + 1 : Nat) : Int) := by omega
 have z0' : (0 : Int) < (n : Int) + 1 := by omega
 go_wp2_with fail
 obtain ⟨W2, hW2⟩ : ∃ W, w2.setCell ⟨g0, 0, none⟩ (.string ⟨#[49]⟩) = W := ⟨_, rfl⟩
 have S0 : Hid (NRowT W2 g0 (OF 0)) := by
  show NRowT _ _ _
  rw [← hW2, ← numB_one, ← OZ.out]
  exact R7.out.set 0 1
 have S1 : Hid (Blk W2 g1 (allB os n).toArray 4) := by rw [← hW2]; exact G12.out.other (by have := K7.out; have := N1.out; have := zt.out; simp; omega) _
 have S2 : Hid (Blk W2 g2 (allB zs n).toArray 4) := by rw [← hW2]; exact G22.out.other (by have := K7.out; have := N2.out; have := zt.out; simp; omega) _
 have ST : Hid (Blk W2 gt #[.slice none 0 0, .string ⟨#[48]⟩] 260) := by rw [← hW2]; exact T2.out.other (by have := K7.out; have := HGT.out; have := zt.out; simp; omega) _
 have SB : Hid (Below w.heap.size w W2) := by rw [← hW2]; exact B2.out.setCell (by have := K7.out; have := z1.out; have := zt.out; simp; omega) _
 have TO : Hid (TabO W2 (gt + 1) gt (.slice none 0 0) [] n 0 EF) := ⟨ST.out, World.ownsRow_nil _ _ _ _, fun i g hi => absurd hi (by omega), by simp [Value.ownBlock], fun i g hi => absurd hi (by omega), fun i g hi => absurd hi (by omega)⟩
 have D1 : Hid (g1 < gt ∧ g2 < gt ∧ w.heap.size ≤ gt) := ⟨by have := N1.out; have := HGT.out; omega, by have := N2.out; have := HGT.out; omega, by have := z1.out; have := HGT.out; omega⟩
 have D2 : Hid (gt < g0) := by show gt < g0; have := K7.out; have := HGT.out; have := zt.out; omega
 rw [hW2]
 clear hW2 k0 k1 z0 z0' R7 G12 G22 T2 B2 b2 K7 L7 Bt T1' A1 G1 G2 B1 N1 N2 z1 zt HGT ST
 go_loopw [8, 29] (fun oo ii wr => ∃ r gO rv gs, oo = rowV n gO ∧ ii = .int .i64 (r : Nat) ∧ r ≤ n + 1 ∧ Hid (gs.length = r ∧ gt < gO ∧ rv.ownBlock ≠ some gO) ∧ Hid (TabO wr (gt + 1) gt rv gs n r EF) ∧ Hid (NRowT wr gO (OF r)) ∧ Hid (Blk wr g1 (allB os n).toArray 4) ∧ Hid (Blk wr g2 (allB zs n).toArray 4) ∧ Hid (Below w.heap.size w wr)) (fun oo ii wr => n + 1 - (intOf ii).toNat)
 case atStart => exact ⟨0, g0, _, [], rfl, rfl, Nat.zero_le _, ⟨rfl, D2.out, by simp [Value.ownBlock]⟩, TO, S0, S1, S2, SB⟩
 case round =>
  obtain ⟨r, gO, rv, gs, rfl, rfl, hr, hM, hT, hO, hg1, hg2, hB⟩ := hrel
  by_cases hlt : r < n + 1
  ·have q0 : decide ((r : Int) < ((n + 1 : Nat) : Int)) = true := by simp; omega
   have dr : decide ((r : Int) < (n : Int) + 1) = true := by simp; omega
   have HR0 := hid hlt
   clear hr hlt
   unfold rowV
   go_wp2_with fail
   refine (HTR _ _ _ _ _ _ hT.out (by have := hM.out.1; omega) (by have := hM.out.1; have := HR0.out; have := HN.out; omega) hT.out.blk.lt).out.mono ?_; rintro e w3 ⟨gD, rv', rfl, hgD, hND, hT3, hne, hat, hK⟩
   simp only [rowV]
   have T3 := hid hT3; have ND3 := hid hND; have NE3 := hid hne
   have zD := hid hgD
   have LD := hid (show gD < w3.heap.size from hND.lt')
   have keep : ∀ b, b < wr.heap.size → b ≠ gt → rv.ownBlock ≠ some b → w3.heap[b]? = wr.heap[b]? := fun b h1 h2 h3 => hK.block b h1 h2 (fun e => h3 e.symm)
   have lO : gO < wr.heap.size := hO.out.lt'
   have l1 : g1 < wr.heap.size := Blk.lt hg1.out
   have l2 : g2 < wr.heap.size := Blk.lt hg2.out
   have rvge : ∀ b, rv.ownBlock = some b → gt + 1 ≤ b := fun b hb => (hT.out.own.lt b hb).1
   have O3 : Hid (NRowT w3 gO (OF r)) := blk_keep hO.out (keep gO lO (by have := hM.out.2.1; omega) hM.out.2.2)
   have G13 : Hid (Blk w3 g1 (allB os n).toArray 4) := blk_keep hg1.out (keep g1 l1 (by have := D1.out.1; omega) (fun e => by have := rvge _ e; have := D1.out.1; omega))
   have G23 : Hid (Blk w3 g2 (allB zs n).toArray 4) := blk_keep hg2.out (keep g2 l2 (by have := D1.out.2.1; omega) (fun e => by have := rvge _ e; have := D1.out.2.1; omega))
   have B3 : Hid (Below w.heap.size w w3) := ⟨hK.os.trans hB.out.os, hK.tape.trans hB.out.tape, hK.output.trans hB.out.output, Nat.le_trans hB.out.size hK.size, fun k hk => by
    have s0 := hB.out.size
    have d := D1.out.2.2
    exact (keep k (by omega) (by omega) (fun e => by have := rvge _ e; omega)).trans (hB.out.block k hk)⟩
   have M3 : Hid (gD ≠ gO ∧ gD ≠ g1 ∧ gD ≠ g2 ∧ gD ≠ gt ∧ rv'.ownBlock ≠ some gO) := by
    refine ⟨by omega, by omega, by omega, by have := hT.out.blk.lt; omega, ?_⟩
    rcases hat with e | ⟨b, e, hb⟩
    ·rw [e]; exact hM.out.2.2
    ·rw [e]; intro e'; have := Option.some.inj e'; omega
   have SG : Hid (∀ i g, i < r → (gs ++ [gD])[i]? = some g → gD ≠ g ∧ g < w3.heap.size) := fun i g hi hg => by
    have hl := hM.out.1
    have hg' := hg
    rw [List.getElem?_append_left (by omega)] at hg'
    have h1 := (hT.out.rows i g hi hg').lt'
    have h2 := hK.size
    exact ⟨by omega, by omega⟩
   clear hT3 hND hne hgD hat hK keep lO l1 l2 rvge
   go_wp2_with fail
   refine (HR _ _ ((Blk.new w3 _ _).cell 0)).out.mono ?_; rintro e w4 ⟨rfl, hg7, hb2⟩
   obtain ⟨gN, h7⟩ : ∃ g, (w3.alloc (.cells #[.string ⟨#[48]⟩] 22)).heap.size = g := ⟨_, rfl⟩
   rw [h7] at hg7 ⊢
   have R7 := hid (NRowT.zeros hg7)
   have a1 := (Below.refl w3.heap.size w3).alloc (Nat.le_refl _) (.cells #[.string ⟨#[48]⟩] 22)
   have b4 := hid (bnext a1 hb2)
   have K7 := hid (show w3.heap.size < gN by rw [← h7]; simp)
   have T4 := hid (T3.out.call b4.out)
   have B4 := hid (bnext B3.out b4.out)
   have QD := hid (show w.heap.size ≤ gD by have := zD.out; have := hB.out.size; omega)
   have QN := hid (show w.heap.size ≤ gN by have := K7.out; have := B3.out.size; omega)
   have l1 : g1 < w3.heap.size := Blk.lt G13.out
   have l2 : g2 < w3.heap.size := Blk.lt G23.out
   have lO : gO < w3.heap.size := O3.out.lt'
   have lT : gt < w3.heap.size := T3.out.blk.lt
   have lR : ∀ b, rv'.ownBlock = some b → b < w3.heap.size := fun b hb => (T3.out.own.lt b hb).2
   have ED : Hid (EnD gt gO gN gD g1 g2 r rv' gs) := by
    have k := K7.out
    have d := LD.out
    refine ⟨by omega, M3.out.2.2.2.1, fun e => ?_, NE3.out, by omega, by omega, fun e => M3.out.1 e.symm, by omega, by omega, M3.out.2.1, M3.out.2.2.1, fun i g hi hg => ?_, fun i g hi hg => (SG.out i g hi hg).1⟩
    ·have := lR _ e; omega
    ·have := (SG.out i g hi hg).2; omega
   have ES : Hid (EnS w4 gt gO gN gD g1 g2 n r rv' gs (OF r) (List.replicate (n + 1) 0) (List.replicate (n + 1) 0) os zs EF) := ⟨T4.out, O3.out.call b4.out, R7.out, ND3.out.call b4.out, G13.out.call b4.out, G23.out.call b4.out⟩
   have NO : Hid (rv'.ownBlock ≠ some gN) := fun e => by have := lR _ e; have := K7.out; omega
   have DG : Hid (gt < gN) := by show gt < gN; have := K7.out; omega
   have RL : Hid (r ≤ n) := by show r ≤ n; have := HR0.out; omega
   have LG := hid hM.out.1
   clear hg7 hb2 a1 h7 l1 l2 lO lT lR T3 ND3 NE3 zD LD O3 G13 G23 B3 M3 SG R7 K7 T4 hM hT hO hg1 hg2 hB b4 q0
   -- the state of this round
   have NXr := hid (NX.out r); have DNr := hid (DN.out r); have OLr := hid (OL.out r)
   have BNr := hid (fun i j k => BN.out r i j k RL.out); have BDr := hid (fun i j k => BD.out r i j k RL.out); have BOr := hid (fun i => BO.out r i RL.out)
   obtain ⟨O, hO⟩ : ∃ O, OF r = O := ⟨_, rfl⟩
   rw [hO] at NXr DNr OLr BNr BDr BOr ES
   clear hO
   go_wp2_with fail
   go_loopw [41] (fun ii wr => ∃ i : Nat, ii = .int .i64 (i : Nat) ∧ i ≤ n + 1 ∧ Hid (EnS wr gt gO gN gD g1 g2 n r rv' gs O (aOut os O n i) (aOut zs O n i) os zs EF) ∧ Hid (Below w.heap.size w wr)) (fun ii wr => n + 1 - (intOf ii).toNat)
   case atStart => exact ⟨0, rfl, Nat.zero_le _, ES, B4⟩
   case round =>
    clear ES
    obtain ⟨i, rfl, hi, hS, hB⟩ := hrel
    by_cases hlt : i < n + 1
    ·have q0 : decide ((i : Int) < ((n + 1 : Nat) : Int)) = true := by simp; omega
     have di : decide ((i : Int) < (n : Int) + 1) = true := by simp; omega
     have f0 : (0 : Int) ≤ (i : Int) := by omega
     have f1 : (i : Int) < ((n + 1 : Nat) : Int) := by omega
     have f1' : (i : Int) < (n : Int) + 1 := by omega
     have f2 : (i : Int) ≤ 1000 := by have := HN.out; omega
     have IL := hid hlt
     clear hi hlt
     go_wp2_with fail
     obtain ⟨x, hx⟩ : ∃ x, O.getD i 0 = x := ⟨_, rfl⟩
     obtain ⟨wo, rfl⟩ : ∃ wo : World, wo = wr := ⟨_, rfl⟩
     have hnx : Hid (aOut os O n (i + 1) = aIn os x i (n + 1 - i) (aOut os O n i)) := by show _ = _; rw [aOut, hx]
     have hdn : Hid (aOut zs O n (i + 1) = aIn zs x i (n + 1 - i) (aOut zs O n i)) := by show _ = _; rw [aOut, hx]
     by_cases hx0 : x = 0
     ·have k0 : wo.cell? ⟨gO, i, none⟩ = some (.string (numB x)) := by rw [← hx]; exact hS.out.o.cell (by rw [OLr.out]; exact IL.out)
      have q1 : ((numB x).toList == [48]) = true := by rw [hx0, numB_zero]; exact lit_zero
      have e1 : Hid (aOut os O n (i + 1) = aOut os O n i) := by show _ = _; rw [hnx.out, hx0, aIn_zero]
      have e2 : Hid (aOut zs O n (i + 1) = aOut zs O n i) := by show _ = _; rw [hdn.out, hx0, aIn_zero]
      obtain ⟨sx, hsx⟩ : ∃ s, numB x = s := ⟨_, rfl⟩
      rw [hsx] at k0 q1
      clear hx hx0 hsx
      go_loopw [12] (fun jj wq => jj = .int .i64 0 ∧ wq = wo) (fun jj wq => 0)
      case atStart => exact ⟨rfl, rfl⟩
      case round =>
       obtain ⟨rfl, rfl⟩ := hrel
       go_wp2_with fail
       go_roundw
       case rel => exact ⟨i + 1, by go_num, by have := IL.out; omega, by rw [e1.out, e2.out]; exact hS, hB⟩
       case measure => simp [intOf] <;> (have := IL.out; omega)
     ·have q1 : ((numB x).toList == [48]) = false := ne_lit (l := [48]) (by rw [← numB_zero]; exact numB_ne hx0)
      have AOL : Hid (∀ c, (aOut c O n i).length = n + 1) := fun c => aOut_length c O n i
      have BNi := hid (fun j k => BNr.out i j k (by have := IL.out; omega)); have BDi := hid (fun j k => BDr.out i j k (by have := IL.out; omega))
      have hxb : x ≤ 2 ^ 200 := by rw [← hx]; exact BOr.out i (by have := IL.out; omega)
      have HXB := hid hxb
      have HX := hid hx
      rw [hx] at BNi BDi
      obtain ⟨nx0, hnx0⟩ : ∃ l, aOut os O n i = l := ⟨_, rfl⟩
      obtain ⟨dn0, hdn0⟩ : ∃ l, aOut zs O n i = l := ⟨_, rfl⟩
      have HNL : Hid (∀ j, (aIn os x i j nx0).length = n + 1) := fun j => by rw [aIn_length, ← hnx0]; exact AOL.out os
      have HDL : Hid (∀ j, (aIn zs x i j dn0).length = n + 1) := fun j => by rw [aIn_length, ← hdn0]; exact AOL.out zs
      rw [hnx0] at BNi hnx hS
      rw [hdn0] at BDi hdn hS
      obtain ⟨sx, hsx⟩ : ∃ s, numB x = s := ⟨_, rfl⟩
      rw [hsx] at q1
      have HSX := hid hsx
      clear hx hx0 hsx hnx0 hdn0 hxb AOL
      go_loopw [12] (fun jj wq => ∃ j : Nat, jj = .int .i64 (j : Nat) ∧ i + j ≤ n + 1 ∧ Hid (EnS wq gt gO gN gD g1 g2 n r rv' gs O (aIn os x i j nx0) (aIn zs x i j dn0) os zs EF) ∧ Hid (Below w.heap.size w wq)) (fun jj wq => n + 1 - (intOf jj).toNat)
      case atStart => exact ⟨0, rfl, by have := IL.out; omega, hS, hB⟩
      case round =>
       clear hS hB
       obtain ⟨j, rfl, hj, hS, hB⟩ := hrel
       have k0 : wr.cell? ⟨gO, i, none⟩ = some (.string sx) := by
        refine (hS.out.o.cell (by rw [OLr.out]; exact IL.out)).trans ?_
        rw [HX.out, HSX.out]
       by_cases hlt : i + j ≤ n
       ·have q2 : decide ((i : Int) + (j : Int) ≤ (n : Int)) = true := by simp; omega
        have f5 : (0 : Int) ≤ (j : Int) := by omega
        have f6 : (j : Int) < ((n + 1 : Nat) : Int) := by omega
        have f6' : (j : Int) < (n : Int) + 1 := by omega
        have f7 : (j : Int) ≤ 1000 := by have := HN.out; omega
        have f8 : (i : Int) + (j : Int) < ((n + 1 : Nat) : Int) := by omega
        have f9 : (i : Int) + (j : Int) < (n : Int) + 1 := by omega
        have f10 : (0 : Int) ≤ (i : Int) + (j : Int) := by omega
        have c1 : wr.cell? ⟨g1, j, none⟩ = some (.bool (os j)) := (hS.out.b1.cell j).trans (by rw [List.getElem?_toArray, allB_get (by omega)])
        have c2 : wr.cell? ⟨g2, j, none⟩ = some (.bool (zs j)) := (hS.out.b2.cell j).trans (by rw [List.getElem?_toArray, allB_get (by omega)])
        have HLT := hid hlt
        obtain ⟨zj, hzj⟩ : ∃ b, zs j = b := ⟨_, rfl⟩
        obtain ⟨oj, hoj⟩ : ∃ b, os j = b := ⟨_, rfl⟩
        rw [hoj] at c1
        rw [hzj] at c2
        have HZJ := hid hzj; have HOJ := hid hoj
        clear hlt hj hzj hoj
        obtain ⟨y1, hy1⟩ : ∃ y, (aIn zs x i j dn0).getD (i + j) 0 = y := ⟨_, rfl⟩
        obtain ⟨y2, hy2⟩ : ∃ y, (aIn os x i j nx0).getD (i + j) 0 = y := ⟨_, rfl⟩
        have p2 : (2 : Nat) ^ 201 = 2 ^ 200 + 2 ^ 200 := by rw [show (201 : Nat) = 200 + 1 from rfl, Nat.pow_succ]
        have hxb := HXB.out
        have hy1b : y1 ≤ 2 ^ 200 := hy1 ▸ BDi.out j (i + j) (by have := HLT.out; omega) HLT.out
        have hy2b : y2 ≤ 2 ^ 200 := hy2 ▸ BNi.out j (i + j) (by have := HLT.out; omega) HLT.out
        have dx := two_pow_digits hxb (by omega)
        have P1 := fun V hV => hid (p_plus V y1 x (two_pow_digits hy1b (by omega)) dx (two_pow_digits (i := 201) (by rw [p2]; exact Nat.add_le_add hy1b hxb) (by omega)) hV)
        have P2 := fun V hV => hid (p_plus V y2 x (two_pow_digits hy2b (by omega)) dx (two_pow_digits (i := 201) (by rw [p2]; exact Nat.add_le_add hy2b hxb) (by omega)) hV)
        have t1 : wr.cell? ⟨gD, i + j, none⟩ = some (.string (numB y1)) := by rw [← hy1]; exact hS.out.dn.cell (by rw [HDL.out]; have := HLT.out; omega)
        have t2 : wr.cell? ⟨gN, i + j, none⟩ = some (.string (numB y2)) := by rw [← hy2]; exact hS.out.nx.cell (by rw [HNL.out]; have := HLT.out; omega)
        rw [HSX.out] at P1 P2
        obtain ⟨u1, hu1⟩ : ∃ s, numB y1 = s := ⟨_, rfl⟩
        obtain ⟨u2, hu2⟩ : ∃ s, numB y2 = s := ⟨_, rfl⟩
        rw [hu1] at P1 t1
        rw [hu2] at P2 t2
        have HY1 := hid hy1; have HY2 := hid hy2; have HU2 := hid hu2
        obtain ⟨m1, hm1⟩ : ∃ s, numB (y1 + x) = s := ⟨_, rfl⟩
        obtain ⟨m2, hm2⟩ : ∃ s, numB (y2 + x) = s := ⟨_, rfl⟩
        rw [hm1] at P1
        rw [hm2] at P2
        have HM1 := hid hm1; have HM2 := hid hm2
        have k1 := k0
        have k2 := k0
        have HOL := OLr
        clear hm1 hm2
        clear hy1 hy2 p2 hxb hy1b hy2b dx hu1 hu2
        cases zj
        ·have hD0 : Hid (aIn zs x i (j + 1) dn0 = aIn zs x i j dn0) := by show _ = _; rw [aIn, HZJ.out, addAt_false]
         cases oj
         ·have hN0 : Hid (aIn os x i (j + 1) nx0 = aIn os x i j nx0) := by show _ = _; rw [aIn, HOJ.out, addAt_false]
          go_wp2_with fail
          go_roundw
          case rel => exact ⟨j + 1, by go_num, by have := HLT.out; omega, by rw [hN0.out, hD0.out]; exact hS, hB⟩
          case measure => simp [intOf] <;> (have := HLT.out; omega)
         ·have hN0 : Hid (aIn os x i (j + 1) nx0 = (aIn os x i j nx0).set (i + j) (y2 + x)) := by show _ = _; rw [aIn, HOJ.out, addAt_true, HY2.out]
          go_wp2_with fail
          have ew : IntKind.i64.wrap ((i : Int) + (j : Int)) = (i : Int) + (j : Int) := by rw [IntWalk.i64_in _ ⟨by omega, by omega⟩]
          have et : ((i : Int) + (j : Int)).toNat = i + j := by omega
          refine held_lasts 15 2 [0, 1, 2, 3, 4, 5, 6, 7, 8, 9, 10, 11, 12, 13] 1 (fun W' => W'.cell? ⟨gN, i + j, none⟩ = some (.string u2) ∧ W'.cell? ⟨gO, i, none⟩ = some (.string sx)) (by kernel_rfl) rfl (by kernel_rfl) (by kernel_rfl) (by kernel_rfl) (by kernel_rfl) ⟨t2, k2⟩ ?_
          iterate 14
           refine ⟨_, rfl, ?_⟩
           apply Exists.intro
           refine ⟨.inl ⟨by rfl, ?_⟩, ?_⟩
           ·(intro W' hW'; obtain ⟨r1, r2⟩ := hW'; go_simp; try (with_reducible rfl))
           (dsimp only [Act.put]; try simp only [List.setIfInBounds_toArray, List.set_cons_zero, List.set_cons_succ])
          refine held_one (i := 14) (by kernel_rfl) (by rfl) (by rfl) ?_
          go_wp2_with fail
          refine (P2 _ (HL.out.below hB.out.drew HLL.out)).out.mono ?_; rintro e w5 ⟨rfl, hbc⟩
          have C2 := hid (show Below wr.heap.size wr w5 from (Below.refl _ _).drew.trans hbc)
          have E2 := hid (hS.out.call C2.out); have F2 := hid (hB.out.trans (C2.out.mono hB.out.size))
          have tc2 := (C2.out.cell (cell_lt t2)).trans t2
          have kc2 := (C2.out.cell (cell_lt k2)).trans k2
          clear hbc
          go_wp2_with fail
          refine ⟨⟨tc2, kc2⟩, ?_⟩
          refine wpAnyH_done (by kernel_rfl) ?_ _
          simp only [Only, ThenL, List.drop_succ_cons, List.drop_zero]
          have fz2 := E2.out.nx.free (i + j)
          clear kc2
          go_wp2_with fail
          try simp only [Only]
          go_roundw
          case rel => exact ⟨j + 1, by go_num, by have := HLT.out; omega, by rw [hN0.out, hD0.out, ← HM2.out]; exact E2.out.setN ED.out (i + j) (y2 + x), F2.out.setCell QN.out _⟩
          case measure => simp [intOf] <;> (have := HLT.out; omega)
        ·have hD0 : Hid (aIn zs x i (j + 1) dn0 = (aIn zs x i j dn0).set (i + j) (y1 + x)) := by show _ = _; rw [aIn, HZJ.out, addAt_true, HY1.out]
         cases oj
         ·have hN0 : Hid (aIn os x i (j + 1) nx0 = aIn os x i j nx0) := by show _ = _; rw [aIn, HOJ.out, addAt_false]
          go_wp2_with fail
          have ew : IntKind.i64.wrap ((i : Int) + (j : Int)) = (i : Int) + (j : Int) := by rw [IntWalk.i64_in _ ⟨by omega, by omega⟩]
          have et : ((i : Int) + (j : Int)).toNat = i + j := by omega
          refine held_lasts 15 2 [0, 1, 2, 3, 4, 5, 6, 7, 8, 9, 10, 11, 12, 13] 1 (fun W' => W'.cell? ⟨gD, i + j, none⟩ = some (.string u1) ∧ W'.cell? ⟨gO, i, none⟩ = some (.string sx)) (by kernel_rfl) rfl (by kernel_rfl) (by kernel_rfl) (by kernel_rfl) (by kernel_rfl) ⟨t1, k1⟩ ?_
          iterate 14
           refine ⟨_, rfl, ?_⟩
           apply Exists.intro
           refine ⟨.inl ⟨by rfl, ?_⟩, ?_⟩
           ·(intro W' hW'; obtain ⟨r1, r2⟩ := hW'; go_simp; try (with_reducible rfl))
           (dsimp only [Act.put]; try simp only [List.setIfInBounds_toArray, List.set_cons_zero, List.set_cons_succ])
          refine held_one (i := 14) (by kernel_rfl) (by rfl) (by rfl) ?_
          go_wp2_with fail
          refine (P1 _ (HL.out.below hB.out.drew HLL.out)).out.mono ?_; rintro e w5 ⟨rfl, hbc⟩
          have C1 := hid (show Below wr.heap.size wr w5 from (Below.refl _ _).drew.trans hbc)
          have E1 := hid (hS.out.call C1.out); have F1 := hid (hB.out.trans (C1.out.mono hB.out.size))
          have tc1 := (C1.out.cell (cell_lt t1)).trans t1
          have kc1 := (C1.out.cell (cell_lt k1)).trans k1
          clear hbc
          go_wp2_with fail
          refine ⟨⟨tc1, kc1⟩, ?_⟩
          refine wpAnyH_done (by kernel_rfl) ?_ _
          simp only [Only, ThenL, List.drop_succ_cons, List.drop_zero]
          have fz1 := E1.out.dn.free (i + j)
          clear kc1
          have S6 : Hid (EnS (w5.setCell ⟨gD, i + j, none⟩ (.string m1)) gt gO gN gD g1 g2 n r rv' gs O (aIn os x i j nx0) ((aIn zs x i j dn0).set (i + j) (y1 + x)) os zs EF) := by rw [← HM1.out]; exact E1.out.setD ED.out (i + j) (y1 + x)
          have c1s : (w5.setCell ⟨gD, i + j, none⟩ (.string m1)).cell? ⟨g1, j, none⟩ = some (.bool false) := (S6.out.b1.cell j).trans (by rw [List.getElem?_toArray, allB_get (by have := HLT.out; omega), HOJ.out])
          go_wp2_with fail
          try simp only [Only]
          go_roundw
          case rel => exact ⟨j + 1, by go_num, by have := HLT.out; omega, by rw [hN0.out, hD0.out]; exact S6, F1.out.setCell QD.out _⟩
          case measure => simp [intOf] <;> (have := HLT.out; omega)
         ·have hN0 : Hid (aIn os x i (j + 1) nx0 = (aIn os x i j nx0).set (i + j) (y2 + x)) := by show _ = _; rw [aIn, HOJ.out, addAt_true, HY2.out]
          go_wp2_with fail
          have ew : IntKind.i64.wrap ((i : Int) + (j : Int)) = (i : Int) + (j : Int) := by rw [IntWalk.i64_in _ ⟨by omega, by omega⟩]
          have et : ((i : Int) + (j : Int)).toNat = i + j := by omega
          refine held_lasts 15 2 [0, 1, 2, 3, 4, 5, 6, 7, 8, 9, 10, 11, 12, 13] 1 (fun W' => W'.cell? ⟨gD, i + j, none⟩ = some (.string u1) ∧ W'.cell? ⟨gO, i, none⟩ = some (.string sx)) (by kernel_rfl) rfl (by kernel_rfl) (by kernel_rfl) (by kernel_rfl) (by kernel_rfl) ⟨t1, k1⟩ ?_
          iterate 14
           refine ⟨_, rfl, ?_⟩
           apply Exists.intro
           refine ⟨.inl ⟨by rfl, ?_⟩, ?_⟩
           ·(intro W' hW'; obtain ⟨r1, r2⟩ := hW'; go_simp; try (with_reducible rfl))
           (dsimp only [Act.put]; try simp only [List.setIfInBounds_toArray, List.set_cons_zero, List.set_cons_succ])
          refine held_one (i := 14) (by kernel_rfl) (by rfl) (by rfl) ?_
          go_wp2_with fail
          refine (P1 _ (HL.out.below hB.out.drew HLL.out)).out.mono ?_; rintro e w5 ⟨rfl, hbc⟩
          have C1 := hid (show Below wr.heap.size wr w5 from (Below.refl _ _).drew.trans hbc)
          have E1 := hid (hS.out.call C1.out); have F1 := hid (hB.out.trans (C1.out.mono hB.out.size))
          have tc1 := (C1.out.cell (cell_lt t1)).trans t1
          have kc1 := (C1.out.cell (cell_lt k1)).trans k1
          clear hbc
          go_wp2_with fail
          refine ⟨⟨tc1, kc1⟩, ?_⟩
          refine wpAnyH_done (by kernel_rfl) ?_ _
          simp only [Only, ThenL, List.drop_succ_cons, List.drop_zero]
          have fz1 := E1.out.dn.free (i + j)
          clear kc1
          have S6 : Hid (EnS (w5.setCell ⟨gD, i + j, none⟩ (.string m1)) gt gO gN gD g1 g2 n r rv' gs O (aIn os x i j nx0) ((aIn zs x i j dn0).set (i + j) (y1 + x)) os zs EF) := by rw [← HM1.out]; exact E1.out.setD ED.out (i + j) (y1 + x)
          have c1s : (w5.setCell ⟨gD, i + j, none⟩ (.string m1)).cell? ⟨g1, j, none⟩ = some (.bool true) := (S6.out.b1.cell j).trans (by rw [List.getElem?_toArray, allB_get (by have := HLT.out; omega), HOJ.out])
          go_wp2_with fail
          try simp only [Only]
          have B6 := hid (F1.out.setCell (p := ⟨gD, i + j, none⟩) QD.out (.string m1))
          obtain ⟨w6, hw6⟩ : ∃ W, w5.setCell ⟨gD, i + j, none⟩ (.string m1) = W := ⟨_, rfl⟩
          rw [hw6] at S6 B6 ⊢
          have k2 : w6.cell? ⟨gO, i, none⟩ = some (.string sx) := by
           refine (S6.out.o.cell (by rw [HOL.out]; exact IL.out)).trans ?_
           rw [HX.out, HSX.out]
          have t2 : w6.cell? ⟨gN, i + j, none⟩ = some (.string u2) := by
           refine (S6.out.nx.cell (by rw [HNL.out j]; have := HLT.out; omega)).trans ?_
           rw [HY2.out, HU2.out]
          clear hw6 c1s fz1 tc1 ew t1 k1
          have ew : IntKind.i64.wrap ((i : Int) + (j : Int)) = (i : Int) + (j : Int) := by rw [IntWalk.i64_in _ ⟨by omega, by omega⟩]
          refine held_lasts 15 2 [0, 1, 2, 3, 4, 5, 6, 7, 8, 9, 10, 11, 12, 13] 1 (fun W' => W'.cell? ⟨gN, i + j, none⟩ = some (.string u2) ∧ W'.cell? ⟨gO, i, none⟩ = some (.string sx)) (by kernel_rfl) rfl (by kernel_rfl) (by kernel_rfl) (by kernel_rfl) (by kernel_rfl) ⟨t2, k2⟩ ?_
          iterate 14
           refine ⟨_, rfl, ?_⟩
           apply Exists.intro
           refine ⟨.inl ⟨by rfl, ?_⟩, ?_⟩
           ·(intro W' hW'; obtain ⟨r1, r2⟩ := hW'; go_simp; try (with_reducible rfl))
           (dsimp only [Act.put]; try simp only [List.setIfInBounds_toArray, List.set_cons_zero, List.set_cons_succ])
          refine held_one (i := 14) (by kernel_rfl) (by rfl) (by rfl) ?_
          go_wp2_with fail
          refine (P2 _ (HL.out.below B6.out.drew HLL.out)).out.mono ?_; rintro e w7 ⟨rfl, hbc⟩
          have C2 := hid (show Below w6.heap.size w6 w7 from (Below.refl _ _).drew.trans hbc)
          have E2 := hid (S6.out.call C2.out); have F2 := hid (B6.out.trans (C2.out.mono B6.out.size))
          have tc2 := (C2.out.cell (cell_lt t2)).trans t2
          have kc2 := (C2.out.cell (cell_lt k2)).trans k2
          clear hbc
          go_wp2_with fail
          refine ⟨⟨tc2, kc2⟩, ?_⟩
          refine wpAnyH_done (by kernel_rfl) ?_ _
          simp only [Only, ThenL, List.drop_succ_cons, List.drop_zero]
          have fz2 := E2.out.nx.free (i + j)
          clear kc2
          go_wp2_with fail
          try simp only [Only]
          go_roundw
          case rel => exact ⟨j + 1, by go_num, by have := HLT.out; omega, by rw [hN0.out, hD0.out, ← HM2.out]; exact E2.out.setN ED.out (i + j) (y2 + x), F2.out.setCell QN.out _⟩
          case measure => simp [intOf] <;> (have := HLT.out; omega)
       ·have q2 : decide ((i : Int) + (j : Int) ≤ (n : Int)) = false := by simp; omega
        have e1 : j = n + 1 - i := by omega
        have f7 : (j : Int) ≤ 1001 := by have := HN.out; omega
        have f5 : (0 : Int) ≤ (j : Int) := by omega
        subst e1
        clear hj hlt
        go_wp2_with fail
        go_roundw
        case rel => exact ⟨i + 1, by go_num, by have := IL.out; omega, by rw [hnx.out, hdn.out]; exact hS, hB⟩
        case measure => simp [intOf] <;> (have := IL.out; omega)
    ·have q0 : decide ((i : Int) < ((n + 1 : Nat) : Int)) = false := by simp; omega
     have di : decide ((i : Int) < (n : Int) + 1) = false := by simp; omega
     have e1 : i = n + 1 := by omega
     subst e1
     rw [NXr.out, DNr.out] at hS
     clear hi hlt
     have wr1 : IntKind.i64.wrap ((r : Int) + 1) = ((r + 1 : Nat) : Int) := by have := RL.out; have := HN.out; rw [IntWalk.i64_in _ ⟨by omega, by omega⟩]; omega
     go_wp2_with fail
     go_roundw
     case rel =>
      refine ⟨r + 1, gN, rv', gs ++ [gD], rfl, by go_num, by have := RL.out; omega, ⟨by rw [List.length_append, LG.out]; rfl, DG.out, NO.out⟩, ?_, hS.out.nx, hS.out.b1, hS.out.b2, hB⟩
      have h := hS.out.tab
      refine ⟨h.blk, h.own, fun i g hi hg => ?_, h.ne, fun i g hi hg => ?_, fun i g hi hg => ?_⟩
      ·by_cases hi2 : i < r
       ·exact h.rows i g hi2 hg
       ·obtain rfl : i = r := by omega
        rw [List.getElem?_append_right (by have := LG.out; omega), LG.out, Nat.sub_self] at hg
        simp at hg
        subst hg
        exact hS.out.dn
      ·by_cases hi2 : i < r
       ·exact h.sep i g hi2 hg
       ·obtain rfl : i = r := by omega
        rw [List.getElem?_append_right (by have := LG.out; omega), LG.out, Nat.sub_self] at hg
        simp at hg
        subst hg
        exact ED.out.rD
      ·by_cases hi2 : i < r
       ·exact h.gne i g hi2 hg
       ·obtain rfl : i = r := by omega
        rw [List.getElem?_append_right (by have := LG.out; omega), LG.out, Nat.sub_self] at hg
        simp at hg
        subst hg
        exact ED.out.tD
     case measure => simp [intOf] <;> (have := RL.out; omega)
  ·have q0 : decide ((r : Int) < ((n + 1 : Nat) : Int)) = false := by simp; omega
   have dr : decide ((r : Int) < (n : Int) + 1) = false := by simp; omega
   have e1 : r = n + 1 := by omega
   subst e1
   clear hr hlt
   unfold rowV
   go_wp2_with fail
   go_ret
   refine ⟨⟨gt, rfl, D1.out.2.2, ?_⟩, hB.out⟩
   rw [HEF.out]
   exact tabR_of hT.out hM.out.1 (fun i => by rw [← HEF.out]; exact fnL_length _ _) (by have := HN.out; omega)
end Go.Proofs.YtckihjfkafdncaaGreatDoor
namespace Go.Proofs.YtckihjfkafdncaaGreatDoor
open Go.RowKit
open Go.Maps
open Go.Lib (decDigits nDigits)
theorem c_Or (w : World) (g x : Nat) (h : Blk w g #[.string (cellB x), .string ⟨#[48]⟩] 22) :
 Calls Tryz.prog 245 #[.slice (some ⟨g, 0, none⟩) 2 2] w fun e w' => e = .returned (.string (numB x)) ∧ w = w' := by
 have r0 := h.cell 0
 have r1 := h.cell 1
 simp at r0 r1
 by_cases hx : x = 0
 ·subst hx
  have e1 : cellB 0 = ⟨#[]⟩ := rfl
  have e2 : numB 0 = ⟨#[48]⟩ := numB_zero
  rw [e1] at r0
  rw [e2]
  clear h e1 e2
  go_enter Tryz.func245, Tryz.ntmps245
  go_wp2_with fail
  go_loopw [8] (fun ii wr => ∃ i : Nat, ii = .int .i64 (i : Nat) ∧ i ≤ 1 ∧ wr = w) (fun ii wr => 2 - (intOf ii).toNat)
  case atStart => exact ⟨0, rfl, Nat.zero_le _, rfl⟩
  case round =>
   obtain ⟨i, rfl, hi, rfl⟩ := hrel
   rcases Nat.lt_or_ge i 1 with h0 | h0
   ·obtain rfl : i = 0 := by omega
    clear hi h0
    go_wp2_with fail
    go_roundw
    case rel => exact ⟨1, by go_num, by omega, by simp⟩
    case measure => simp [intOf]
   ·obtain rfl : i = 1 := by omega
    clear hi h0
    go_wp2_with fail
    go_ret
    exact ⟨rfl, rfl⟩
 ·have e1 : cellB x = numB x := if_neg hx
  rw [e1] at r0
  have q1 : ((numB x).toList == []) = false := ne_lit (l := []) (fun e => by
   have h1 := numB_size x
   rw [e] at h1
   have h2 := Go.Lib.nDigits_pos x
   simp [ByteArray.size] at h1
   omega)
  obtain ⟨s, hs⟩ : ∃ s, numB x = s := ⟨_, rfl⟩
  rw [hs] at r0 q1 ⊢
  clear h e1 hs hx
  go_enter Tryz.func245, Tryz.ntmps245
  go_wp2_with fail
  go_loopw [8] (fun ii wr => ii = .int .i64 0 ∧ wr = w) (fun ii wr => 0)
  case atStart => exact ⟨rfl, rfl⟩
  case round =>
   obtain ⟨rfl, rfl⟩ := hrel
   go_wp2_with fail
   go_ret
   exact ⟨rfl, rfl⟩
structure GlS (H : Type) (w1 w : World) (B K : Nat) (c : Int → Nat) : Prop where
 bel : Below w1.heap.size w1 w
 ex : ∃ (nn : Nat) (D : DataW H), nn ≤ K ∧ w.ownsMap Tryz.prog 3 (plainElem Tryz.prog 22) B nn D ∧ ReadsI D c
theorem GlS.mono {H : Type} {w1 w : World} {B K K' : Nat} {c c' : Int → Nat} (h : GlS H w1 w B K c) (hK : K ≤ K') (hc : c = c') : GlS H w1 w B K' c' := by
 subst hc
 obtain ⟨h1, nn, D, h2, h3, h4⟩ := h
 exact ⟨h1, nn, D, by omega, h3, h4⟩
theorem below_map {w1 w w' : World} {B : Nat} (h : Below w1.heap.size w1 w) (hg : w.grownBy w' (some B)) (hB : w1.heap.size ≤ B) : Below w1.heap.size w1 w' := by
 refine ⟨hg.os.trans h.os, hg.tape.trans h.tape, hg.output.trans h.output, Nat.le_trans h.size hg.size, fun i hi => ?_⟩
 exact (hg.block i (by have := h.size; omega) (fun e => by injection e with e; omega)).trans (h.block i hi)
theorem wf_int {v : Int} (h1 : -100000 ≤ v) (h2 : v ≤ 100000) : (Lit.int .i64 v).wf = true := WalkArith.wf_i64 ⟨by omega, by omega⟩
theorem nd_mul_pw {x y a b : Nat} (h1 : x ≤ 2 ^ a) (h2 : y ≤ 2 ^ b) (h : a + b ≤ 3000) : nDigits (x * y) ≤ 4000 := two_pow_digits (by rw [Nat.pow_add]; exact Nat.mul_le_mul h1 h2) h
theorem numB_size_le {x : Nat} (h : nDigits x ≤ 4000) : (numB x).size ≤ maxLen := by rw [numB_size]; unfold maxLen; omega
end Go.Proofs.YtckihjfkafdncaaGreatDoor
