/- Texts that the proof rests on, merged: Fr1b, Fr4, Rt4, Rt5, Gnp, MsT, Nq0, R1e, Pn6, Rp13, Fd4, Sq3, Fn0, Rq0, Sh6, Sm, Gd0, Gl0, Tb. -/
import Derived.Test.YtgphopkifomffaaGreatDoorMp3
import Derived.Deep.AppendLies
import Derived.WalkLawsBesides
import Derived.Sort.Walk0
import Derived.Deep.DeepCutAuto
import Derived.Shelf.SlSortCmp.WholeK
import Derived.Shelf.SlGeneric
import Derived.Shelf.Small.Bits
import Derived.Ground.SlsfProg
import Derived.Ground.NamesProg
import Derived.Test.YtgphopkifomffaaGreatDoorProg
import Derived.Sort.OwnSortedInts
import Derived.Maps.AppendAt
import Derived.RangeFuncBox
set_option linter.unusedVariables false
set_option linter.unusedSimpArgs false
set_option linter.unusedSectionVars false
set_option maxRecDepth 100000
set_option maxHeartbeats 8000000
namespace Go.Proofs.YtgphopkifomffaaGreatDoor
open Go.RowKit
open Go.Lib (decDigits nDigits)
theorem f_Inv (w : World) (v : Value) (q : Rat) (h : IsQ .u64 w v q) (h0 : q ≠ 0) :
 Calls Tryz.prog 83 #[v] w fun e w' => RetQ .u64 q⁻¹ e w' ∧ Below w.heap.size w w' := by
 obtain ⟨N, D, rfl, hn, hd⟩ := h.ex
 obtain ⟨m, hm⟩ : ∃ m, decide (q.num < 0) = m := ⟨_, rfl⟩
 have HN := hid hn; have HD := hid hd; have HM := hid hm; have H0 := hid h0
 rw [hm]
 obtain ⟨a1, c1, rfl, _⟩ := hn.openI
 obtain ⟨a2, c2, rfl, _⟩ := hd.openI
 clear hn hd hm h0 h
 go_enter Tryz.func83, Tryz.ntmps83
 go_wp2_with fail
 obtain ⟨p1, p2, p3⟩ := inv_num H0.out
 have B := ((Below.refl w.heap.size w).alloc (Nat.le_refl _) (.cells #[.bool m, .slice a1 (limbs q.num.natAbs).length c1, .slice a2 (limbs q.den).length c2] 101)).alloc (by simp) (.cells #[.bool m, .slice a2 (limbs q.den).length c2, .slice a1 (limbs q.num.natAbs).length c1] 101)
 refine bodyPost_ret (v := .agg #[.bool m, .slice a2 (limbs q.den).length c2, .slice a1 (limbs q.num.natAbs).length c1]) (by simp [results, Tryz.results83, go_sem]) rfl ⟨⟨_, rfl, ⟨_, _, rfl.trans ?_, by rw [p2]; exact HD.out.call B, by rw [p3]; exact HN.out.call B⟩⟩, B⟩
 rw [p1, HM.out]
def sgQ (q : Rat) : Int := if q.num = 0 then 0 else if q.num < 0 then -1 else 1
theorem sgQ_zero {q : Rat} (h : q.num = 0) : sgQ q = 0 := if_pos h
theorem sgQ_neg {q : Rat} (h : ¬ q.num = 0) (h2 : q.num < 0) : sgQ q = -1 := by rw [sgQ, if_neg h, if_pos h2]
theorem sgQ_pos {q : Rat} (h : ¬ q.num = 0) (h2 : ¬ q.num < 0) : sgQ q = 1 := by rw [sgQ, if_neg h, if_neg h2]
theorem f_Sign (w : World) (v : Value) (q : Rat) (h : IsQ .u64 w v q) :
 Calls Tryz.prog 82 #[v] w fun e w' => e = .returned (.int .i64 (sgQ q)) ∧ Below w.heap.size w w' := by
 obtain ⟨N, D, rfl, hn, hd⟩ := h.ex
 obtain ⟨m, hm⟩ : ∃ m, decide (q.num < 0) = m := ⟨_, rfl⟩
 have HN := hid hn; have HM := hid hm
 rw [hm]
 obtain ⟨a1, c1, rfl, _⟩ := hn.openI
 obtain ⟨a2, c2, rfl, _⟩ := hd.openI
 obtain ⟨k1, hk1⟩ : ∃ k, (limbs q.num.natAbs).length = k := ⟨_, rfl⟩
 obtain ⟨k2, hk2⟩ : ∃ k, (limbs q.den).length = k := ⟨_, rfl⟩
 rw [hk1] at HN ⊢
 rw [hk2]
 have b0 := hid ((Below.refl w.heap.size w).alloc (Nat.le_refl _) (.cells #[.bool m, .slice a1 k1 c1, .slice a2 k2 c2] 101))
 have N0 := hid (HN.out.call b0.out)
 clear hn hd hm h hk1 hk2
 go_enter Tryz.func82, Tryz.ntmps82
 go_wp2_with fail
 refine (l_Zero _ _ _ N0.out).mono ?_; rintro e w1 ⟨rfl, rfl⟩
 by_cases hz : q.num = 0
 ·have h1 : isZ q.num.natAbs = true := isZ_iff.2 (by omega)
  rw [h1]
  have HZ := hid hz
  clear h1 hz
  go_wp2_with fail
  go_ret
  exact ⟨ret_int (sgQ_zero HZ.out).symm, b0.out⟩
 ·have h1 : isZ q.num.natAbs = false := decide_eq_false (by omega)
  rw [h1]
  have HZ := hid hz
  clear h1 hz
  cases m
  ·go_wp2_with fail
   go_ret
   exact ⟨ret_int (sgQ_pos HZ.out (of_decide_eq_false HM.out)).symm, b0.out⟩
  ·go_wp2_with fail
   go_ret
   exact ⟨ret_int (sgQ_neg HZ.out (of_decide_eq_true HM.out)).symm, b0.out⟩
theorem neg_partsU {q : Rat} {m : Bool} (hm : decide (q.num < 0) = m) : decide ((-q).num < 0) = (!m && !isZ q.num.natAbs) ∧ (-q).num.natAbs = q.num.natAbs ∧ (-q).den = q.den := by
 refine ⟨?_, by rw [Rat.neg_num, Int.natAbs_neg], Rat.neg_den q⟩
 rw [Rat.neg_num, ← hm, Bool.eq_iff_iff]
 unfold isZ
 simp only [Bool.and_eq_true, Bool.not_eq_true', decide_eq_true_eq, decide_eq_false_iff_not]
 omega
theorem f_Neg (w : World) (v : Value) (q : Rat) (h : IsQ .u64 w v q) :
 Calls Tryz.prog 106 #[v] w fun e w' => RetQ .u64 (-q) e w' ∧ Below w.heap.size w w' := by
 obtain ⟨N, D, rfl, hn, hd⟩ := h.ex
 obtain ⟨m, hm⟩ : ∃ m, decide (q.num < 0) = m := ⟨_, rfl⟩
 have HN := hid hn; have HD := hid hd; have HP := hid (neg_partsU hm)
 rw [hm]
 obtain ⟨a1, c1, rfl, _⟩ := hn.openI
 obtain ⟨a2, c2, rfl, _⟩ := hd.openI
 obtain ⟨k1, hk1⟩ : ∃ k, (limbs q.num.natAbs).length = k := ⟨_, rfl⟩
 obtain ⟨k2, hk2⟩ : ∃ k, (limbs q.den).length = k := ⟨_, rfl⟩
 rw [hk1] at HN ⊢
 rw [hk2] at HD ⊢
 have HZ := fun W h => hid (l_Zero W (.slice a1 k1 c1) q.num.natAbs h)
 obtain ⟨z, hz⟩ : ∃ z, isZ q.num.natAbs = z := ⟨_, rfl⟩
 rw [hz] at HP HZ
 clear hn hd hm h hk1 hk2 hz
 have b1 := hid (((Below.refl w.heap.size w).alloc (Nat.le_refl _) (.cells #[.bool m, .slice a1 k1 c1, .slice a2 k2 c2] 101)).alloc (by simp) (.cells #[.bool false, .slice none 0 0, .slice none 0 0] 101))
 cases m
 ·go_enter Tryz.func106, Tryz.ntmps106
  go_wp2_with fail
  refine region_tail 14 (by kernel_rfl) (by kernel_rfl) ?_
  simp only [List.take_succ_cons, List.take_zero, List.drop_succ_cons, List.drop_zero]
  iterate 6 still_step
  still_call ((HZ _ (HN.out.call b1.out.drew)).out.mono fun _ _ h => ⟨h.1, h.2.symm⟩)
  iterate 7 still_step
  refine wpStill_nil ?_
  go_wp2_with fail
  have b2 := (((Below.refl w.heap.size w).alloc (Nat.le_refl _) (.cells #[.bool false, .slice a1 k1 c1, .slice a2 k2 c2] 101)).alloc (by simp) (.cells #[.bool (!z), .slice a1 k1 c1, .slice a2 k2 c2] 101)).drew
  obtain ⟨p1, p2, p3⟩ := HP.out
  refine bodyPost_ret (v := .agg #[.bool (!z), .slice a1 k1 c1, .slice a2 k2 c2]) (by simp [results, Tryz.results106, go_sem]) rfl ⟨⟨_, rfl, ⟨.slice a1 k1 c1, .slice a2 k2 c2, ?_, ?_, ?_⟩⟩, b2⟩
  ·rw [p1]; rfl
  ·rw [p2]; exact HN.out.call b2
  ·rw [p3]; exact HD.out.call b2
 ·go_enter Tryz.func106, Tryz.ntmps106
  go_wp2_with fail
  refine region_tail 14 (by kernel_rfl) (by kernel_rfl) ?_
  simp only [List.take_succ_cons, List.take_zero, List.drop_succ_cons, List.drop_zero]
  iterate 14 still_step
  refine wpStill_nil ?_
  go_wp2_with fail
  have b2 := (((Below.refl w.heap.size w).alloc (Nat.le_refl _) (.cells #[.bool true, .slice a1 k1 c1, .slice a2 k2 c2] 101)).alloc (by simp) (.cells #[.bool false, .slice a1 k1 c1, .slice a2 k2 c2] 101)).drew
  obtain ⟨p1, p2, p3⟩ := HP.out
  refine bodyPost_ret (v := .agg #[.bool false, .slice a1 k1 c1, .slice a2 k2 c2]) (by simp [results, Tryz.results106, go_sem]) rfl ⟨⟨_, rfl, ⟨.slice a1 k1 c1, .slice a2 k2 c2, ?_, ?_, ?_⟩⟩, b2⟩
  ·rw [p1]; rfl
  ·rw [p2]; exact HN.out.call b2
  ·rw [p3]; exact HD.out.call b2
end Go.Proofs.YtgphopkifomffaaGreatDoor
namespace Go.Proofs.YtgphopkifomffaaGreatDoor
open Go.RowKit
theorem q_add_same {p q : Rat} {m : Bool} (h1 : decide (p.num < 0) = m) (h2 : decide (q.num < 0) = m) : qmk m (p.num.natAbs * q.den + q.num.natAbs * p.den) (p.den * q.den) = p + q := by
 rw [q_add, h1, h2, sgn_same]; rfl
theorem q_add_less {p q : Rat} {m1 m2 : Bool} (h1 : decide (p.num < 0) = m1) (h2 : decide (q.num < 0) = m2) (h : m1 ≠ m2) (hl : p.num.natAbs * q.den < q.num.natAbs * p.den) : qmk m2 (q.num.natAbs * p.den - p.num.natAbs * q.den) (p.den * q.den) = p + q := by
 rw [q_add, h1, h2, sgn_less h hl]; rfl
theorem q_add_more {p q : Rat} {m1 m2 : Bool} (h1 : decide (p.num < 0) = m1) (h2 : decide (q.num < 0) = m2) (h : m1 ≠ m2) (hl : q.num.natAbs * p.den ≤ p.num.natAbs * q.den) : qmk m1 (p.num.natAbs * q.den - q.num.natAbs * p.den) (p.den * q.den) = p + q := by
 rw [q_add, h1, h2, sgn_more h hl]; rfl
theorem f_Add (w : World) (v u : Value) (p q : Rat) (hp : IsQ .u64 w v p) (hq : IsQ .u64 w u q)
 (h1 : (limbs p.num.natAbs).length ≤ 100000) (h2 : (limbs p.den).length ≤ 100000) (h3 : (limbs q.num.natAbs).length ≤ 100000) (h4 : (limbs q.den).length ≤ 100000) :
 Calls Tryz.prog 105 #[v, u] w fun e w' => RetQ .u64 (p + q) e w' ∧ Below w.heap.size w w' := by
 obtain ⟨m1, hm1⟩ : ∃ m, decide (p.num < 0) = m := ⟨_, rfl⟩
 obtain ⟨m2, hm2⟩ : ∃ m, decide (q.num < 0) = m := ⟨_, rfl⟩
 have s1 := fun (e : m1 = m2) => q_add_same (m := m1) hm1 (hm2.trans e.symm)
 have s2 := q_add_less hm1 hm2
 have s3 := q_add_more hm1 hm2
 obtain ⟨Q, hQ⟩ : ∃ Q, p + q = Q := ⟨_, rfl⟩
 rw [hQ] at s1 s2 s3 ⊢
 have hD := hid (Nat.mul_pos p.den_pos q.den_pos)
 obtain ⟨N1, D1, rfl, hn1, hd1⟩ := hp.ex
 obtain ⟨N2, D2, rfl, hn2, hd2⟩ := hq.ex
 rw [hm1, hm2]
 clear hp hq hQ hm1 hm2
 generalize p.num.natAbs = n1 at *
 generalize q.num.natAbs = n2 at *
 generalize p.den = d1 at *
 generalize q.den = d2 at *
 have S1 := hid s1; have S2 := hid s2; have S3 := hid s3
 have HN1 := hid hn1; have HD1 := hid hd1; have HN2 := hid hn2; have HD2 := hid hd2
 have lx := len_mul h1 h4
 have ly := len_mul h3 h2
 have ld := len_mul h2 h4
 have LX := hid (Nat.le_trans lx (show 100000 + 100000 ≤ 200000 by omega)); have LY := hid (Nat.le_trans ly (show 100000 + 100000 ≤ 200000 by omega)); have LD := hid (Nat.le_trans ld (show 100000 + 100000 ≤ 1000000 by omega))
 have LXY := hid (Nat.le_trans (len_add lx ly) (show 100000 + 100000 + (100000 + 100000) + 1 ≤ 1000000 by omega))
 have H1 := hid (Nat.le_trans h1 (show 100000 ≤ 1000000 by omega))
 have H2 := hid (Nat.le_trans h2 (show 100000 ≤ 1000000 by omega))
 have H3 := hid (Nat.le_trans h3 (show 100000 ≤ 1000000 by omega))
 have H4 := hid (Nat.le_trans h4 (show 100000 ≤ 1000000 by omega))
 clear h1 h2 h3 h4 lx ly ld s1 s2 s3
 obtain ⟨a1, c1, rfl, _⟩ := hn1.openI
 obtain ⟨a2, c2, rfl, _⟩ := hd1.openI
 obtain ⟨a3, c3, rfl, _⟩ := hn2.openI
 obtain ⟨a4, c4, rfl, _⟩ := hd2.openI
 clear hn1 hd1 hn2 hd2
 go_enter Tryz.func105, Tryz.ntmps105
 go_wp2_with fail
 obtain ⟨W, hW⟩ : ∃ W, ((w.alloc (.cells #[.bool m1, .slice a1 (limbs n1).length c1, .slice a2 (limbs d1).length c2] 101)).alloc (.cells #[.bool m2, .slice a3 (limbs n2).length c3, .slice a4 (limbs d2).length c4] 101)).alloc (.cells #[.bool false, .slice none 0 0, .slice none 0 0] 101) = W := ⟨_, rfl⟩
 have T := hid (Three.mk' hW)
 rw [hW]
 clear hW
 have hS := T.out.cells (Below.refl _ _).drew
 have B0 := hid (T.out.below.drew)
 have C0 := hid ((Below.refl W.heap.size W).drew)
 refine held_plain [0, 1, 2, 3, 5, 6, 7, 8] 4 (twoF w.heap.size m1 m2 (.slice a1 (limbs n1).length c1) (.slice a2 (limbs d1).length c2) (.slice a3 (limbs n2).length c3) (.slice a4 (limbs d2).length c4)) (by kernel_rfl) (by kernel_rfl) (by kernel_rfl) (by kernel_rfl) hS ?_
 iterate 8
  refine ⟨_, rfl, ?_⟩
  apply Exists.intro
  refine ⟨.inl ⟨by rfl, ?_⟩, ?_⟩
  ·(intro W' hW'; obtain ⟨q1, q2, q3, q4, q5, q6⟩ := hW'; go_simp; try (with_reducible rfl))
  (dsimp only [Act.put]; try simp only [List.setIfInBounds_toArray, List.set_cons_zero, List.set_cons_succ])
 clear hS
 refine held_one (i := 4) (by kernel_rfl) (by rfl) (by rfl) ?_
 go_wp2_with fail
 refine (l_Mul _ _ _ n1 d2 (HN1.out.call B0.out) (HD2.out.call B0.out) H1.out H4.out).mono ?_; rintro e w1 ⟨⟨v1, rfl, hv1⟩, hb1⟩
 have B1 := hid (B0.out.trans (hb1.mono B0.out.size)); have C1 := hid (bnext C0.out hb1); have V1 := hid hv1
 clear hb1 hv1
 go_wp2_with fail
 refine ⟨T.out.cells C1.out, ?_⟩
 refine held_one (i := 9) (by kernel_rfl) (by rfl) (by rfl) ?_
 go_wp2_with fail
 refine (l_Mul _ _ _ n2 d1 (HN2.out.call B1.out) (HD1.out.call B1.out) H3.out H2.out).mono ?_; rintro e w2 ⟨⟨v2, rfl, hv2⟩, hb2⟩
 have B2 := hid (B1.out.trans (hb2.mono B1.out.size)); have C2 := hid (bnext C1.out hb2); have V2 := hid hv2; have W1 := hid (V1.out.call hb2)
 clear hb2 hv2
 go_wp2_with fail
 refine ⟨T.out.cells C2.out, ?_⟩
 refine held_more (is := [10, 11]) (g := 0) (by kernel_rfl) rfl (T.out.cells C2.out) (by kernel_rfl) ?_
 iterate 2
  refine ⟨_, rfl, ?_⟩
  apply Exists.intro
  refine ⟨.inl ⟨by rfl, ?_⟩, ?_⟩
  ·(intro W' hW'; clear hW'; go_simp; try (with_reducible rfl))
  (dsimp only [Act.put]; try simp only [List.setIfInBounds_toArray, List.set_cons_zero, List.set_cons_succ])
 refine wpAnyH_done (by kernel_rfl) ?_ _
 simp only [Only]
 obtain ⟨k0, k1, k2, k3, k4, k5⟩ := T.out.cells C2.out
 go_wp2_with fail
 refine (l_Mul _ _ _ d1 d2 (HD1.out.call B2.out) (HD2.out.call B2.out) H2.out H4.out).mono ?_; rintro e w3 ⟨⟨v3, rfl, hv3⟩, hb3⟩
 have B3 := hid (B2.out.trans (hb3.mono B2.out.size)); have C3 := hid (bnext C2.out hb3); have V3 := hid hv3; have X1 := hid (W1.out.call hb3); have X2 := hid (V2.out.call hb3)
 clear hb3 hv3 k0 k1 k2 k3 k4 k5
 go_wp2_with fail
 refine (l_Cmp _ _ _ (n1 * d2) (n2 * d1) X1.out X2.out (Nat.le_trans LX.out (by omega))).mono ?_; rintro e w4 ⟨rfl, hb4⟩
 have B4 := hid (B3.out.trans (hb4.mono B3.out.size)); have C4 := hid (bnext C3.out hb4); have V4 := hid (V3.out.call hb4); have Y1 := hid (X1.out.call hb4); have Y2 := hid (X2.out.call hb4)
 clear hb4
 obtain ⟨k0, k1, k2, k3, k4, k5⟩ := T.out.cells C4.out
 clear B0 B1 B2 B3 C0 C1 C2 C3 V1 V2 V3 W1 X1 X2
 obtain ⟨X, hX⟩ : ∃ X, n1 * d2 = X := ⟨_, rfl⟩
 obtain ⟨Y, hY⟩ : ∃ X, n2 * d1 = X := ⟨_, rfl⟩
 obtain ⟨E, hE⟩ : ∃ X, d1 * d2 = X := ⟨_, rfl⟩
 rw [hX] at S1 S2 S3 LX LXY Y1 ⊢
 rw [hY] at S1 S2 S3 LY LXY Y2 ⊢
 rw [hE] at S1 S2 S3 LD V4 hD
 clear hX hY hE
 by_cases em : m1 = m2
 ·have SA := hid (S1.out em)
  subst em
  have q0 : (m1 == m1) = true := beq_self_eq_true m1
  go_wp2_with fail
  have hS := T.out.cells C4.out.drew
  have B0 := hid B4.out.drew
  have C0 := hid C4.out.drew
  refine held_plain [0, 1, 2, 3, 5] 3 (twoF w.heap.size m1 m1 (.slice a1 (limbs n1).length c1) (.slice a2 (limbs d1).length c2) (.slice a3 (limbs n2).length c3) (.slice a4 (limbs d2).length c4)) (by kernel_rfl) (by kernel_rfl) (by kernel_rfl) (by kernel_rfl) hS ?_
  iterate 5
   refine ⟨_, rfl, ?_⟩
   apply Exists.intro
   refine ⟨.inl ⟨by rfl, ?_⟩, ?_⟩
   ·(intro W' hW'; obtain ⟨q1, q2, q3, q4, q5, q6⟩ := hW'; go_simp; try (with_reducible rfl))
   (dsimp only [Act.put]; try simp only [List.setIfInBounds_toArray, List.set_cons_zero, List.set_cons_succ])
  clear hS
  refine held_one (i := 4) (by kernel_rfl) (by rfl) (by rfl) ?_
  go_wp2_with fail
  refine (l_Add _ _ _ X Y (Y1.out.call (Below.refl _ _).drew) (Y2.out.call (Below.refl _ _).drew) (Nat.le_trans LX.out (by omega)) (Nat.le_trans LY.out (by omega))).mono ?_; rintro e w5 ⟨⟨v5, rfl, hv5⟩, hb5⟩
  have B5 := hid (B0.out.trans (hb5.mono B0.out.size)); have C5 := hid (C0.out.trans (hb5.mono C0.out.size)); have V5 := hid hv5; have E5 := hid (V4.out.call (show Below w4.heap.size w4 w5 from (Below.refl _ _).drew.trans hb5))
  clear hb5 hv5
  go_wp2_with fail
  refine ⟨T.out.cells C5.out, ?_⟩
  refine held_one (i := 6) (by kernel_rfl) (by rfl) (by rfl) ?_
  go_wp2_with fail
  refine (f_Make _ _ _ _ (X + Y) E V5.out E5.out hD.out (LXY.out) LD.out).mono ?_; rintro e w6 ⟨⟨v3, rfl, hv3⟩, hb6⟩
  rw [SA.out] at hv3
  have B6 := hid (B5.out.trans (hb6.mono B5.out.size)); have C6 := hid (C5.out.trans (hb6.mono C5.out.size))
  clear hb6
  obtain ⟨N3, D3, rfl, hN3, hD3⟩ := hv3.ex
  obtain ⟨a5, c5, rfl, _⟩ := hN3.openI
  obtain ⟨a6, c6, rfl, _⟩ := hD3.openI
  obtain ⟨k5, hk5⟩ : ∃ k, (limbs Q.num.natAbs).length = k := ⟨_, rfl⟩
  obtain ⟨k6, hk6⟩ : ∃ k, (limbs Q.den).length = k := ⟨_, rfl⟩
  obtain ⟨mq, hmq⟩ : ∃ m, decide (Q.num < 0) = m := ⟨_, rfl⟩
  rw [hk5] at hN3 ⊢
  rw [hk6] at hD3 ⊢
  rw [hmq]
  have HN3 := hid hN3; have HD3 := hid hD3; have HMQ := hid hmq
  have Z := hid (T.out.b2.call C6.out)
  have t0 := Z.out.cell 0
  have t1 := Z.out.cell 1
  have t2 := Z.out.cell 2
  have t3 := Z.out.free 0
  have t4 := Z.out.free 1
  have t5 := Z.out.free 2
  simp at t0 t1 t2
  clear hv3 hN3 hD3 hk5 hk6 hmq
  go_wp2_with fail
  refine ⟨T.out.cells C6.out, ?_⟩
  refine held_one (i := 7) (by kernel_rfl) (by rfl) (by rfl) ?_
  go_wp2_with fail
  refine ⟨T.out.stored C6.out _ _ _, ?_⟩
  refine wpAnyH_done (by kernel_rfl) ?_ _
  simp only [Only]
  obtain ⟨s1, s2⟩ := set3 Z.out mq a5 a6 k5 c5 k6 c6
  have f0 := s2.cell 0
  have f1 := s2.cell 1
  have f2 := s2.cell 2
  simp at f0 f1 f2
  clear t0 t1 t2 t3 t4 t5
  go_wp2_with fail
  refine bodyPost_ret (v := .agg #[.bool mq, .slice a5 k5 c5, .slice a6 k6 c6]) (by simp [results, Tryz.results105, go_sem, f0, f1, f2]) rfl ⟨⟨_, rfl, ⟨.slice a5 k5 c5, .slice a6 k6 c6, by rw [HMQ.out], s1 _ _ _ HN3.out, s1 _ _ _ HD3.out⟩⟩, ?_⟩
  exact ((B6.out.setCell (by simp; omega) _).setCell (by simp; omega) _).setCell (by simp; omega) _
 ·have q0 : (m1 == m2) = false := by simpa using em
  have HE := hid em
  clear em
  by_cases hc : X < Y
  ·have HC := hid hc
   rw [ordN_lt hc]
   clear hc
   go_wp2_with fail
   have hS := T.out.cells C4.out.drew
   have B0 := hid B4.out.drew
   have C0 := hid C4.out.drew
   refine held_plain [0, 1, 2, 3, 5] 3 (twoF w.heap.size m1 m2 (.slice a1 (limbs n1).length c1) (.slice a2 (limbs d1).length c2) (.slice a3 (limbs n2).length c3) (.slice a4 (limbs d2).length c4)) (by kernel_rfl) (by kernel_rfl) (by kernel_rfl) (by kernel_rfl) hS ?_
   iterate 5
    refine ⟨_, rfl, ?_⟩
    apply Exists.intro
    refine ⟨.inl ⟨by rfl, ?_⟩, ?_⟩
    ·(intro W' hW'; obtain ⟨q1, q2, q3, q4, q5, q6⟩ := hW'; go_simp; try (with_reducible rfl))
    (dsimp only [Act.put]; try simp only [List.setIfInBounds_toArray, List.set_cons_zero, List.set_cons_succ])
   clear hS
   refine held_one (i := 4) (by kernel_rfl) (by rfl) (by rfl) ?_
   go_wp2_with fail
   refine (l_Sub _ _ _ Y X (Y2.out.call (Below.refl _ _).drew) (Y1.out.call (Below.refl _ _).drew) (Nat.le_of_lt HC.out) (Nat.le_trans LY.out (by omega))).mono ?_; rintro e w5 ⟨⟨v5, rfl, hv5⟩, hb5⟩
   have B5 := hid (B0.out.trans (hb5.mono B0.out.size)); have C5 := hid (C0.out.trans (hb5.mono C0.out.size)); have V5 := hid hv5; have E5 := hid (V4.out.call (show Below w4.heap.size w4 w5 from (Below.refl _ _).drew.trans hb5))
   clear hb5 hv5
   go_wp2_with fail
   refine ⟨T.out.cells C5.out, ?_⟩
   refine held_one (i := 6) (by kernel_rfl) (by rfl) (by rfl) ?_
   go_wp2_with fail
   refine (f_Make _ _ _ _ (Y - X) E V5.out E5.out hD.out (Nat.le_trans (limbs_length_mono (Nat.sub_le Y X)) (Nat.le_trans LY.out (by omega))) LD.out).mono ?_; rintro e w6 ⟨⟨v3, rfl, hv3⟩, hb6⟩
   rw [S2.out HE.out HC.out] at hv3
   have B6 := hid (B5.out.trans (hb6.mono B5.out.size)); have C6 := hid (C5.out.trans (hb6.mono C5.out.size))
   clear hb6
   obtain ⟨N3, D3, rfl, hN3, hD3⟩ := hv3.ex
   obtain ⟨a5, c5, rfl, _⟩ := hN3.openI
   obtain ⟨a6, c6, rfl, _⟩ := hD3.openI
   obtain ⟨k5, hk5⟩ : ∃ k, (limbs Q.num.natAbs).length = k := ⟨_, rfl⟩
   obtain ⟨k6, hk6⟩ : ∃ k, (limbs Q.den).length = k := ⟨_, rfl⟩
   obtain ⟨mq, hmq⟩ : ∃ m, decide (Q.num < 0) = m := ⟨_, rfl⟩
   rw [hk5] at hN3 ⊢
   rw [hk6] at hD3 ⊢
   rw [hmq]
   have HN3 := hid hN3; have HD3 := hid hD3; have HMQ := hid hmq
   have Z := hid (T.out.b2.call C6.out)
   have t0 := Z.out.cell 0
   have t1 := Z.out.cell 1
   have t2 := Z.out.cell 2
   have t3 := Z.out.free 0
   have t4 := Z.out.free 1
   have t5 := Z.out.free 2
   simp at t0 t1 t2
   clear hv3 hN3 hD3 hk5 hk6 hmq
   go_wp2_with fail
   refine ⟨T.out.cells C6.out, ?_⟩
   refine held_one (i := 7) (by kernel_rfl) (by rfl) (by rfl) ?_
   go_wp2_with fail
   refine ⟨T.out.stored C6.out _ _ _, ?_⟩
   refine wpAnyH_done (by kernel_rfl) ?_ _
   simp only [Only]
   obtain ⟨s1, s2⟩ := set3 Z.out mq a5 a6 k5 c5 k6 c6
   have f0 := s2.cell 0
   have f1 := s2.cell 1
   have f2 := s2.cell 2
   simp at f0 f1 f2
   clear t0 t1 t2 t3 t4 t5
   go_wp2_with fail
   refine bodyPost_ret (v := .agg #[.bool mq, .slice a5 k5 c5, .slice a6 k6 c6]) (by simp [results, Tryz.results105, go_sem, f0, f1, f2]) rfl ⟨⟨_, rfl, ⟨.slice a5 k5 c5, .slice a6 k6 c6, by rw [HMQ.out], s1 _ _ _ HN3.out, s1 _ _ _ HD3.out⟩⟩, ?_⟩
   exact ((B6.out.setCell (by simp; omega) _).setCell (by simp; omega) _).setCell (by simp; omega) _
  ·have HC := hid (show Y ≤ X by omega)
   have q1 : decide (ordN X Y < 0) = false := by
    rcases Nat.lt_or_ge Y X with h | h
    ·rw [ordN_gt h]; rfl
    ·rw [show X = Y by omega, ordN_eq]; rfl
   clear hc
   go_wp2_with fail
   have hS := T.out.cells C4.out.drew
   have B0 := hid B4.out.drew
   have C0 := hid C4.out.drew
   refine held_plain [0, 1, 2, 3, 5] 3 (twoF w.heap.size m1 m2 (.slice a1 (limbs n1).length c1) (.slice a2 (limbs d1).length c2) (.slice a3 (limbs n2).length c3) (.slice a4 (limbs d2).length c4)) (by kernel_rfl) (by kernel_rfl) (by kernel_rfl) (by kernel_rfl) hS ?_
   iterate 5
    refine ⟨_, rfl, ?_⟩
    apply Exists.intro
    refine ⟨.inl ⟨by rfl, ?_⟩, ?_⟩
    ·(intro W' hW'; obtain ⟨q1, q2, q3, q4, q5, q6⟩ := hW'; go_simp; try (with_reducible rfl))
    (dsimp only [Act.put]; try simp only [List.setIfInBounds_toArray, List.set_cons_zero, List.set_cons_succ])
   clear hS
   refine held_one (i := 4) (by kernel_rfl) (by rfl) (by rfl) ?_
   go_wp2_with fail
   refine (l_Sub _ _ _ X Y (Y1.out.call (Below.refl _ _).drew) (Y2.out.call (Below.refl _ _).drew) HC.out (Nat.le_trans LX.out (by omega))).mono ?_; rintro e w5 ⟨⟨v5, rfl, hv5⟩, hb5⟩
   have B5 := hid (B0.out.trans (hb5.mono B0.out.size)); have C5 := hid (C0.out.trans (hb5.mono C0.out.size)); have V5 := hid hv5; have E5 := hid (V4.out.call (show Below w4.heap.size w4 w5 from (Below.refl _ _).drew.trans hb5))
   clear hb5 hv5
   go_wp2_with fail
   refine ⟨T.out.cells C5.out, ?_⟩
   refine held_one (i := 6) (by kernel_rfl) (by rfl) (by rfl) ?_
   go_wp2_with fail
   refine (f_Make _ _ _ _ (X - Y) E V5.out E5.out hD.out (Nat.le_trans (limbs_length_mono (Nat.sub_le X Y)) (Nat.le_trans LX.out (by omega))) LD.out).mono ?_; rintro e w6 ⟨⟨v3, rfl, hv3⟩, hb6⟩
   rw [S3.out HE.out HC.out] at hv3
   have B6 := hid (B5.out.trans (hb6.mono B5.out.size)); have C6 := hid (C5.out.trans (hb6.mono C5.out.size))
   clear hb6
   obtain ⟨N3, D3, rfl, hN3, hD3⟩ := hv3.ex
   obtain ⟨a5, c5, rfl, _⟩ := hN3.openI
   obtain ⟨a6, c6, rfl, _⟩ := hD3.openI
   obtain ⟨k5, hk5⟩ : ∃ k, (limbs Q.num.natAbs).length = k := ⟨_, rfl⟩
   obtain ⟨k6, hk6⟩ : ∃ k, (limbs Q.den).length = k := ⟨_, rfl⟩
   obtain ⟨mq, hmq⟩ : ∃ m, decide (Q.num < 0) = m := ⟨_, rfl⟩
   rw [hk5] at hN3 ⊢
   rw [hk6] at hD3 ⊢
   rw [hmq]
   have HN3 := hid hN3; have HD3 := hid hD3; have HMQ := hid hmq
   have Z := hid (T.out.b2.call C6.out)
   have t0 := Z.out.cell 0
   have t1 := Z.out.cell 1
   have t2 := Z.out.cell 2
   have t3 := Z.out.free 0
   have t4 := Z.out.free 1
   have t5 := Z.out.free 2
   simp at t0 t1 t2
   clear hv3 hN3 hD3 hk5 hk6 hmq
   go_wp2_with fail
   refine ⟨T.out.cells C6.out, ?_⟩
   refine held_one (i := 7) (by kernel_rfl) (by rfl) (by rfl) ?_
   go_wp2_with fail
   refine ⟨T.out.stored C6.out _ _ _, ?_⟩
   refine wpAnyH_done (by kernel_rfl) ?_ _
   simp only [Only]
   obtain ⟨s1, s2⟩ := set3 Z.out mq a5 a6 k5 c5 k6 c6
   have f0 := s2.cell 0
   have f1 := s2.cell 1
   have f2 := s2.cell 2
   simp at f0 f1 f2
   clear t0 t1 t2 t3 t4 t5
   go_wp2_with fail
   refine bodyPost_ret (v := .agg #[.bool mq, .slice a5 k5 c5, .slice a6 k6 c6]) (by simp [results, Tryz.results105, go_sem, f0, f1, f2]) rfl ⟨⟨_, rfl, ⟨.slice a5 k5 c5, .slice a6 k6 c6, by rw [HMQ.out], s1 _ _ _ HN3.out, s1 _ _ _ HD3.out⟩⟩, ?_⟩
   exact ((B6.out.setCell (by simp; omega) _).setCell (by simp; omega) _).setCell (by simp; omega) _
theorem f_Sub (w : World) (v u : Value) (p q : Rat) (hp : IsQ .u64 w v p) (hq : IsQ .u64 w u q)
 (h1 : (limbs p.num.natAbs).length ≤ 100000) (h2 : (limbs p.den).length ≤ 100000) (h3 : (limbs q.num.natAbs).length ≤ 100000) (h4 : (limbs q.den).length ≤ 100000) :
 Calls Tryz.prog 60 #[v, u] w fun e w' => RetQ .u64 (p - q) e w' ∧ Below w.heap.size w w' := by
 have e1 : p + -q = p - q := (Rat.sub_eq_add_neg p q).symm
 have F1 := fun V v h => hid (f_Neg V v q h)
 have F2 := fun V v u hv hu => hid (f_Add V v u p (-q) hv hu h1 h2 (by rw [Rat.neg_num, Int.natAbs_neg]; exact h3) (by rw [Rat.neg_den]; exact h4))
 rw [e1] at F2
 obtain ⟨Q, hQ⟩ : ∃ Q, p - q = Q := ⟨_, rfl⟩
 rw [hQ] at F2 ⊢
 have HP := hid hp; have HQ' := hid hq
 obtain ⟨N1, D1, rfl, hn1, hd1⟩ := hp.ex
 obtain ⟨N2, D2, rfl, hn2, hd2⟩ := hq.ex
 obtain ⟨a1, c1, rfl, _⟩ := hn1.openI
 obtain ⟨a2, c2, rfl, _⟩ := hd1.openI
 obtain ⟨a3, c3, rfl, _⟩ := hn2.openI
 obtain ⟨a4, c4, rfl, _⟩ := hd2.openI
 clear hp hq hQ e1 hn1 hd1 hn2 hd2 h1 h2 h3 h4
 obtain ⟨m1, hm1⟩ : ∃ m, decide (p.num < 0) = m := ⟨_, rfl⟩
 obtain ⟨m2, hm2⟩ : ∃ m, decide (q.num < 0) = m := ⟨_, rfl⟩
 obtain ⟨l1, hl1⟩ : ∃ m, (limbs p.num.natAbs).length = m := ⟨_, rfl⟩
 obtain ⟨l2, hl2⟩ : ∃ m, (limbs p.den).length = m := ⟨_, rfl⟩
 obtain ⟨l3, hl3⟩ : ∃ m, (limbs q.num.natAbs).length = m := ⟨_, rfl⟩
 obtain ⟨l4, hl4⟩ : ∃ m, (limbs q.den).length = m := ⟨_, rfl⟩
 rw [hm1, hl1, hl2] at HP
 rw [hm2, hl3, hl4] at HQ'
 rw [hm1, hm2, hl1, hl2, hl3, hl4]
 clear hm1 hm2 hl1 hl2 hl3 hl4
 go_enter Tryz.func60, Tryz.ntmps60
 go_wp2_with fail
 obtain ⟨W, hW⟩ : ∃ W, ((w.alloc (.cells #[.bool m1, .slice a1 l1 c1, .slice a2 l2 c2] 101)).alloc (.cells #[.bool m2, .slice a3 l3 c3, .slice a4 l4 c4] 101)).alloc (.cells #[.bool false, .slice none 0 0, .slice none 0 0] 101) = W := ⟨_, rfl⟩
 have T := hid (Three.mk' hW)
 rw [hW]
 clear hW
 have hS := T.out.cells (Below.refl _ _).drew
 have B0 := hid (T.out.below.drew)
 have C0 := hid ((Below.refl W.heap.size W).drew)
 refine held_plain [0, 1] 3 (twoF w.heap.size m1 m2 (.slice a1 l1 c1) (.slice a2 l2 c2) (.slice a3 l3 c3) (.slice a4 l4 c4)) (by kernel_rfl) (by kernel_rfl) (by kernel_rfl) (by kernel_rfl) hS ?_
 iterate 2
  refine ⟨_, rfl, ?_⟩
  apply Exists.intro
  refine ⟨.inl ⟨by rfl, ?_⟩, ?_⟩
  ·(intro W' hW'; obtain ⟨q1, q2, q3, q4, q5, q6⟩ := hW'; go_simp; try (with_reducible rfl))
  (dsimp only [Act.put]; try simp only [List.setIfInBounds_toArray, List.set_cons_zero, List.set_cons_succ])
 clear hS
 refine held_one (i := 2) (by kernel_rfl) (by rfl) (by rfl) ?_
 go_wp2_with fail
 refine (F1 _ _ (HQ'.out.call B0.out)).out.mono ?_; rintro e w1 ⟨⟨v1, rfl, hv1⟩, hb1⟩
 have B1 := hid (B0.out.trans (hb1.mono B0.out.size)); have C1 := hid (bnext C0.out hb1); have V1 := hid hv1
 clear hb1 hv1
 go_wp2_with fail
 refine ⟨T.out.cells C1.out, ?_⟩
 refine held_one (i := 3) (by kernel_rfl) (by rfl) (by rfl) ?_
 go_wp2_with fail
 refine (F2 _ _ _ (HP.out.call B1.out) V1.out).out.mono ?_; rintro e w3 ⟨⟨v3, rfl, hv3⟩, hb3⟩
 have B3 := hid (B1.out.trans (hb3.mono B1.out.size)); have C3 := hid (bnext C1.out hb3)
 clear hb3
 obtain ⟨N3, D3, rfl, hN3, hD3⟩ := hv3.ex
 obtain ⟨a5, c5, rfl, _⟩ := hN3.openI
 obtain ⟨a6, c6, rfl, _⟩ := hD3.openI
 obtain ⟨k5, hk5⟩ : ∃ k, (limbs Q.num.natAbs).length = k := ⟨_, rfl⟩
 obtain ⟨k6, hk6⟩ : ∃ k, (limbs Q.den).length = k := ⟨_, rfl⟩
 obtain ⟨mq, hmq⟩ : ∃ m, decide (Q.num < 0) = m := ⟨_, rfl⟩
 rw [hk5] at hN3 ⊢
 rw [hk6] at hD3 ⊢
 rw [hmq]
 have HN3 := hid hN3; have HD3 := hid hD3; have HMQ := hid hmq
 have Z := hid (T.out.b2.call C3.out)
 have t0 := Z.out.cell 0
 have t1 := Z.out.cell 1
 have t2 := Z.out.cell 2
 have t3 := Z.out.free 0
 have t4 := Z.out.free 1
 have t5 := Z.out.free 2
 simp at t0 t1 t2
 clear hv3 hN3 hD3 hk5 hk6 hmq
 go_wp2_with fail
 refine ⟨T.out.cells C3.out, ?_⟩
 refine held_one (i := 4) (by kernel_rfl) (by rfl) (by rfl) ?_
 go_wp2_with fail
 refine ⟨T.out.stored C3.out _ _ _, ?_⟩
 refine wpAnyH_done (by kernel_rfl) ?_ _
 simp only [Only]
 obtain ⟨s1, s2⟩ := set3 Z.out mq a5 a6 k5 c5 k6 c6
 have f0 := s2.cell 0
 have f1 := s2.cell 1
 have f2 := s2.cell 2
 simp at f0 f1 f2
 clear t0 t1 t2 t3 t4 t5
 go_wp2_with fail
 refine bodyPost_ret (v := .agg #[.bool mq, .slice a5 k5 c5, .slice a6 k6 c6]) (by simp [results, Tryz.results60, go_sem, f0, f1, f2]) rfl ⟨⟨_, rfl, ⟨.slice a5 k5 c5, .slice a6 k6 c6, by rw [HMQ.out], s1 _ _ _ HN3.out, s1 _ _ _ HD3.out⟩⟩, ?_⟩
 exact ((B3.out.setCell (by simp; omega) _).setCell (by simp; omega) _).setCell (by simp; omega) _
open Go.Shelf
open Go.Lib (decDigits nDigits)
theorem q_both (w : World) (s t : ByteArray) (F : Nat) (R : ByteArray) (x : Int) (hs : s.size ≤ 1000000) (ht : t.size ≤ 1000000) (hL : Lay w)
 (hen : ∀ args w, (callFunc F args).run Tryz.prog w = .ok (.enter F args) w)
 (hF : ∀ W v u, qE s = 0 → qE t = 0 → IsQ .u64 W v (vQ s) → IsQ .u64 W u (vQ t) → Lay W → Calls Tryz.prog F #[v, u] W fun e w' => e = .returned (.tuple #[.string R, .int .i64 x]) ∧ Below W.heap.size W w') :
 Calls Tryz.prog 58 #[.string s, .string t, .func (.func F) #[] #[]] w fun e w' => e = .returned (.tuple #[.string (tB R s t), .int .i64 (tE x s t)]) ∧ Below w.heap.size w w' := by
 have HF := hid hF
 have HL := hid hL
 have HEN := hid hen
 have HT := hid ht
 have b1 := hid ((Below.refl w.heap.size w).alloc (Nat.le_refl _) (.cells #[.string t] 22))
 obtain ⟨w1, hw1⟩ : ∃ w1, w.alloc (.cells #[.string t] 22) = w1 := ⟨_, rfl⟩
 obtain ⟨g1, hg1⟩ : ∃ g, w.heap.size = g := ⟨_, rfl⟩
 have X1 := hid (Blk.new w #[.string t] 22)
 rw [hw1] at b1
 rw [hw1, hg1] at X1
 have b2 := hid ((Below.refl w1.heap.size w1).alloc (Nat.le_refl _) (.cells #[.func (.func F) #[] #[]] 104))
 obtain ⟨w2, hw2⟩ : ∃ w2, w1.alloc (.cells #[.func (.func F) #[] #[]] 104) = w2 := ⟨_, rfl⟩
 have X2 := hid (Blk.new w1 #[.func (.func F) #[] #[]] 104)
 have X12 := hid (X1.out.call b2.out)
 have y2 := hid (bnext b1.out b2.out)
 have hg2 : w1.heap.size = g1 + 1 := by rw [← hw1, ← hg1]; simp
 rw [hw2] at b2 X12 y2
 rw [hw2, hg2] at X2
 have L2 := hid (HL.out.call y2.out)
 have W2 := hid (q_with w2 s 103 #[.pointer (some ⟨g1, 0, none⟩), .pointer (some ⟨g1 + 1, 0, none⟩)] (wB R t) (wE x t) hs L2.out (enters_of Tryz.func103 (by kernel_rfl) rfl)
  (fun W v hq hb hv hLW => by
   have hX1 := (X12.out.call hb).cell 0
   have hX2 := (X2.out.call hb).cell 0
   exact q_both1 W v t (vQ s) F g1 (g1 + 1) R x HT.out hv hLW HEN.out hX1 hX2 (fun W v u h0 h1 h2 h3 => HF.out W v u hq h0 h1 h2 h3)))
 have HW1 := hid hw1; have HW2 := hid hw2; have HG1 := hid hg1
 clear hF hL hen hs ht hw1 hw2 hg1 hg2 b1
 go_enter Tryz.func58, Tryz.ntmps58
 go_wp2_with fail
 have hw1 := HW1.out; have hw2 := HW2.out; have hg1 := HG1.out
 rw [hw1, hg1, hw2]
 refine W2.out.mono ?_; rintro e w3 ⟨rfl, hb3⟩
 have y3 := hid (bnext y2.out hb3)
 clear hb3 hw1 hw2 hg1
 go_wp2_with fail
 go_ret2
 exact ⟨rfl, by have := y3.out; exact this⟩
structure Sml (K : Nat) (q : Rat) : Prop where
 n : (limbs q.num.natAbs).length ≤ K
 d : (limbs q.den).length ≤ K
theorem sml_vQ {s : ByteArray} (h : qE s = 0) : Sml 1000 (vQ s) := by
 obtain ⟨-, e2, e3⟩ := vQ_ok h
 obtain ⟨-, -, -, l1, l2, -⟩ := valid h
 exact ⟨by rw [e2]; exact Nat.le_trans (limbs_of_digits l1) (by omega), by rw [e3]; exact Nat.le_trans (limbs_of_digits l2) (by omega)⟩
theorem Sml.up {K L : Nat} {q : Rat} (h : Sml K q) (hl : K ≤ L) : Sml L q := ⟨Nat.le_trans h.n hl, Nat.le_trans h.d hl⟩
theorem sml_neg {K : Nat} {q : Rat} (h : Sml K q) : Sml K (-q) := ⟨by rw [Rat.neg_num, Int.natAbs_neg]; exact h.n, by rw [Rat.neg_den]; exact h.d⟩
theorem sml_mk {K : Nat} {z : Int} {d : Nat} (hd : 0 < d) (h1 : (limbs z.natAbs).length ≤ K) (h2 : (limbs d).length ≤ K) : Sml K (mkRat z d) := by
 refine ⟨?_, ?_⟩
 ·rw [Rat.num_mkRat, if_neg (by omega)]
  refine Nat.le_trans (limbs_length_mono ?_) h1
  exact Int.natAbs_ediv_le_natAbs _ _
 ·rw [Rat.den_mkRat, if_neg (by omega)]
  exact Nat.le_trans (limbs_length_mono (Nat.div_le_self _ _)) h2
theorem sml_mulK {K L : Nat} {p q : Rat} (hp : Sml K p) (hq : Sml L q) : Sml (K + L) (p * q) := by
 rw [← qmk_mul]
 unfold qmk
 exact sml_mk (Nat.mul_pos p.den_pos q.den_pos) (by rw [sgn_natAbs]; exact limbs_mul hp.n hq.n) (limbs_mul hp.d hq.d)
theorem sml_addK {K L : Nat} {p q : Rat} (hp : Sml K p) (hq : Sml L q) : Sml (K + L + (K + L) + 1) (p + q) := by
 rw [q_add]
 refine sml_mk (Nat.mul_pos p.den_pos q.den_pos) ?_ (Nat.le_trans (limbs_mul hp.d hq.d) (by omega))
 refine Nat.le_trans (limbs_length_mono (sgn_abs_le _ _ _ _)) ?_
 exact Nat.le_trans (len_add (limbs_mul hp.n hq.d) (limbs_mul hq.n hp.d)) (by omega)
theorem sml_mul {p q : Rat} (hp : Sml 1000 p) (hq : Sml 1000 q) : Sml 10000 (p * q) := (sml_mulK hp hq).up (by omega)
theorem sml_add {p q : Rat} (hp : Sml 1000 p) (hq : Sml 1000 q) : Sml 10000 (p + q) := (sml_addK hp hq).up (by omega)
theorem sml_sub {p q : Rat} (hp : Sml 1000 p) (hq : Sml 1000 q) : Sml 10000 (p - q) := by rw [Rat.sub_eq_add_neg]; exact sml_add hp (sml_neg hq)
theorem t2B {f : Rat → Rat → Rat} {s t : ByteArray} : tB (outB (f (vQ s) (vQ t))) s t = op2B f s t := by
 unfold tB wB op2B
 by_cases h1 : qE s = 0 <;> by_cases h2 : qE t = 0 <;> simp [h1, h2]
theorem t2E {f : Rat → Rat → Rat} {s t : ByteArray} : tE (outE (f (vQ s) (vQ t))) s t = op2E f s t := by
 unfold tE wE op2E
 by_cases h1 : qE s = 0 <;> by_cases h2 : qE t = 0 <;> simp [h1, h2]
theorem q_Mul1 (w : World) (v u : Value) (p q : Rat) (hp : IsQ .u64 w v p) (hq : IsQ .u64 w u q) (sp : Sml 1000 p) (sq : Sml 1000 q) (hL : Lay w) :
 Calls Tryz.prog 62 #[v, u] w fun e w' => e = .returned (.tuple #[.string (outB (p * q)), .int .i64 (outE (p * q))]) ∧ Below w.heap.size w w' := by
 have F1 := fun V v u hv hu => hid (f_Mul V v u p q hv hu (Nat.le_trans sp.n (by omega)) (Nat.le_trans sp.d (by omega)) (Nat.le_trans sq.n (by omega)) (Nat.le_trans sq.d (by omega)))
 have SQ := sml_mul sp sq
 have F2 := fun V v hv hV => hid (f_Num V v (p * q) hv (Nat.le_trans SQ.n (by omega)) (Nat.le_trans SQ.d (by omega)) hV)
 obtain ⟨Q, hQ⟩ : ∃ Q, p * q = Q := ⟨_, rfl⟩
 rw [hQ] at F1 F2 ⊢
 have HL := hid hL
 obtain ⟨N1, D1, rfl, hn1, hd1⟩ := hp.ex
 obtain ⟨N2, D2, rfl, hn2, hd2⟩ := hq.ex
 obtain ⟨a1, c1, rfl, _⟩ := hn1.openI
 obtain ⟨a2, c2, rfl, _⟩ := hd1.openI
 obtain ⟨a3, c3, rfl, _⟩ := hn2.openI
 obtain ⟨a4, c4, rfl, _⟩ := hd2.openI
 obtain ⟨k1, hk1⟩ : ∃ k, (limbs p.num.natAbs).length = k := ⟨_, rfl⟩
 obtain ⟨k2, hk2⟩ : ∃ k, (limbs p.den).length = k := ⟨_, rfl⟩
 obtain ⟨k3, hk3⟩ : ∃ k, (limbs q.num.natAbs).length = k := ⟨_, rfl⟩
 obtain ⟨k4, hk4⟩ : ∃ k, (limbs q.den).length = k := ⟨_, rfl⟩
 obtain ⟨m1, hm1⟩ : ∃ m, decide (p.num < 0) = m := ⟨_, rfl⟩
 obtain ⟨m2, hm2⟩ : ∃ m, decide (q.num < 0) = m := ⟨_, rfl⟩
 rw [hk1, hk2, hm1] at hp ⊢
 rw [hk3, hk4, hm2] at hq ⊢
 have X1 := hid (Blk.new w #[.bool m1, .slice a1 k1 c1, .slice a2 k2 c2] 101)
 have b1 := hid ((Below.refl w.heap.size w).alloc (Nat.le_refl _) (.cells #[.bool m1, .slice a1 k1 c1, .slice a2 k2 c2] 101))
 have Y1 := hid (X1.out.alloc (.cells #[.bool m2, .slice a3 k3 c3, .slice a4 k4 c4] 101))
 have X2 := hid (Blk.new (w.alloc (.cells #[.bool m1, .slice a1 k1 c1, .slice a2 k2 c2] 101)) #[.bool m2, .slice a3 k3 c3, .slice a4 k4 c4] 101)
 have b2 := hid (b1.out.alloc b1.out.size (.cells #[.bool m2, .slice a3 k3 c3, .slice a4 k4 c4] 101))
 have P2 := hid (hp.call b2.out)
 have Q2 := hid (hq.call b2.out)
 have r0 := Y1.out.cell 0
 have r1 := Y1.out.cell 1
 have r2 := Y1.out.cell 2
 have s0 := X2.out.cell 0
 have s1 := X2.out.cell 1
 have s2 := X2.out.cell 2
 simp at r0 r1 r2 s0 s1 s2
 clear hk1 hk2 hk3 hk4 hm1 hm2 hn1 hn2 hd1 hd2 hp hq hL sp sq SQ hQ
 go_enter Tryz.func62, Tryz.ntmps62
 go_wp2_with fail
 refine (F1 _ _ _ P2.out Q2.out).out.mono ?_; rintro e w3 ⟨⟨v3, rfl, hv3⟩, hb3⟩
 have y3 := hid (bnext b2.out hb3)
 obtain ⟨N3, D3, rfl, hn3, hd3⟩ := hv3.ex
 obtain ⟨a5, c5, rfl, _⟩ := hn3.openI
 obtain ⟨a6, c6, rfl, _⟩ := hd3.openI
 obtain ⟨k5, hk5⟩ : ∃ k, (limbs Q.num.natAbs).length = k := ⟨_, rfl⟩
 obtain ⟨k6, hk6⟩ : ∃ k, (limbs Q.den).length = k := ⟨_, rfl⟩
 obtain ⟨m3, hm3⟩ : ∃ m, decide (Q.num < 0) = m := ⟨_, rfl⟩
 rw [hk5, hk6, hm3] at hv3 ⊢
 have V3 := hid hv3
 clear hb3 hv3 hn3 hd3 hk5 hk6 hm3
 go_wp2_with fail
 refine (F2 _ _ V3.out (HL.out.call y3.out)).out.mono ?_; rintro e w4 ⟨rfl, hb4⟩
 have y4 := hid (bnext y3.out hb4); clear hb4
 go_wp2_with fail
 go_ret2
 exact ⟨rfl, y4.out⟩
theorem q_Mul (w : World) (s t : ByteArray) (hs : s.size ≤ 1000000) (ht : t.size ≤ 1000000) (hL : Lay w) :
 Calls Tryz.prog 30 #[.string s, .string t] w fun e w' => e = .returned (.tuple #[.string (op2B (· * ·) s t), .int .i64 (op2E (· * ·) s t)]) ∧ Below w.heap.size w w' := by
 have H := hid (q_both w s t 62 (outB (vQ s * vQ t)) (outE (vQ s * vQ t)) hs ht hL (enters_of Tryz.func62 (by kernel_rfl) rfl)
  (fun W v u h1 h2 hv hu hLW => q_Mul1 W v u _ _ hv hu (sml_vQ h1) (sml_vQ h2) hLW))
 rw [t2B, t2E (f := (· * ·))] at H
 obtain ⟨B, hB⟩ : ∃ B, op2B (· * ·) s t = B := ⟨_, rfl⟩
 obtain ⟨E, hE⟩ : ∃ E, op2E (· * ·) s t = E := ⟨_, rfl⟩
 rw [hB, hE] at H ⊢
 clear hB hE hs ht hL
 go_enter Tryz.func30, Tryz.ntmps30
 go_wp2_with fail
 refine H.out.mono ?_; rintro e w1 ⟨rfl, hb1⟩
 have y1 := hid hb1; clear hb1
 go_wp2_with fail
 go_ret2
 exact ⟨rfl, y1.out⟩
theorem q_Sub1 (w : World) (v u : Value) (p q : Rat) (hp : IsQ .u64 w v p) (hq : IsQ .u64 w u q) (sp : Sml 1000 p) (sq : Sml 1000 q) (hL : Lay w) :
 Calls Tryz.prog 59 #[v, u] w fun e w' => e = .returned (.tuple #[.string (outB (p - q)), .int .i64 (outE (p - q))]) ∧ Below w.heap.size w w' := by
 have F1 := fun V v u hv hu => hid (f_Sub V v u p q hv hu (Nat.le_trans sp.n (by omega)) (Nat.le_trans sp.d (by omega)) (Nat.le_trans sq.n (by omega)) (Nat.le_trans sq.d (by omega)))
 have SQ := sml_sub sp sq
 have F2 := fun V v hv hV => hid (f_Num V v (p - q) hv (Nat.le_trans SQ.n (by omega)) (Nat.le_trans SQ.d (by omega)) hV)
 obtain ⟨Q, hQ⟩ : ∃ Q, p - q = Q := ⟨_, rfl⟩
 rw [hQ] at F1 F2 ⊢
 have HL := hid hL
 obtain ⟨N1, D1, rfl, hn1, hd1⟩ := hp.ex
 obtain ⟨N2, D2, rfl, hn2, hd2⟩ := hq.ex
 obtain ⟨a1, c1, rfl, _⟩ := hn1.openI
 obtain ⟨a2, c2, rfl, _⟩ := hd1.openI
 obtain ⟨a3, c3, rfl, _⟩ := hn2.openI
 obtain ⟨a4, c4, rfl, _⟩ := hd2.openI
 obtain ⟨k1, hk1⟩ : ∃ k, (limbs p.num.natAbs).length = k := ⟨_, rfl⟩
 obtain ⟨k2, hk2⟩ : ∃ k, (limbs p.den).length = k := ⟨_, rfl⟩
 obtain ⟨k3, hk3⟩ : ∃ k, (limbs q.num.natAbs).length = k := ⟨_, rfl⟩
 obtain ⟨k4, hk4⟩ : ∃ k, (limbs q.den).length = k := ⟨_, rfl⟩
 obtain ⟨m1, hm1⟩ : ∃ m, decide (p.num < 0) = m := ⟨_, rfl⟩
 obtain ⟨m2, hm2⟩ : ∃ m, decide (q.num < 0) = m := ⟨_, rfl⟩
 rw [hk1, hk2, hm1] at hp ⊢
 rw [hk3, hk4, hm2] at hq ⊢
 have X1 := hid (Blk.new w #[.bool m1, .slice a1 k1 c1, .slice a2 k2 c2] 101)
 have b1 := hid ((Below.refl w.heap.size w).alloc (Nat.le_refl _) (.cells #[.bool m1, .slice a1 k1 c1, .slice a2 k2 c2] 101))
 have Y1 := hid (X1.out.alloc (.cells #[.bool m2, .slice a3 k3 c3, .slice a4 k4 c4] 101))
 have X2 := hid (Blk.new (w.alloc (.cells #[.bool m1, .slice a1 k1 c1, .slice a2 k2 c2] 101)) #[.bool m2, .slice a3 k3 c3, .slice a4 k4 c4] 101)
 have b2 := hid (b1.out.alloc b1.out.size (.cells #[.bool m2, .slice a3 k3 c3, .slice a4 k4 c4] 101))
 have P2 := hid (hp.call b2.out)
 have Q2 := hid (hq.call b2.out)
 have r0 := Y1.out.cell 0
 have r1 := Y1.out.cell 1
 have r2 := Y1.out.cell 2
 have s0 := X2.out.cell 0
 have s1 := X2.out.cell 1
 have s2 := X2.out.cell 2
 simp at r0 r1 r2 s0 s1 s2
 clear hk1 hk2 hk3 hk4 hm1 hm2 hn1 hn2 hd1 hd2 hp hq hL sp sq SQ hQ
 go_enter Tryz.func59, Tryz.ntmps59
 go_wp2_with fail
 refine (F1 _ _ _ P2.out Q2.out).out.mono ?_; rintro e w3 ⟨⟨v3, rfl, hv3⟩, hb3⟩
 have y3 := hid (bnext b2.out hb3)
 obtain ⟨N3, D3, rfl, hn3, hd3⟩ := hv3.ex
 obtain ⟨a5, c5, rfl, _⟩ := hn3.openI
 obtain ⟨a6, c6, rfl, _⟩ := hd3.openI
 obtain ⟨k5, hk5⟩ : ∃ k, (limbs Q.num.natAbs).length = k := ⟨_, rfl⟩
 obtain ⟨k6, hk6⟩ : ∃ k, (limbs Q.den).length = k := ⟨_, rfl⟩
 obtain ⟨m3, hm3⟩ : ∃ m, decide (Q.num < 0) = m := ⟨_, rfl⟩
 rw [hk5, hk6, hm3] at hv3 ⊢
 have V3 := hid hv3
 clear hb3 hv3 hn3 hd3 hk5 hk6 hm3
 go_wp2_with fail
 refine (F2 _ _ V3.out (HL.out.call y3.out)).out.mono ?_; rintro e w4 ⟨rfl, hb4⟩
 have y4 := hid (bnext y3.out hb4); clear hb4
 go_wp2_with fail
 go_ret2
 exact ⟨rfl, y4.out⟩
theorem q_Sub (w : World) (s t : ByteArray) (hs : s.size ≤ 1000000) (ht : t.size ≤ 1000000) (hL : Lay w) :
 Calls Tryz.prog 29 #[.string s, .string t] w fun e w' => e = .returned (.tuple #[.string (op2B (· - ·) s t), .int .i64 (op2E (· - ·) s t)]) ∧ Below w.heap.size w w' := by
 have H := hid (q_both w s t 59 (outB (vQ s - vQ t)) (outE (vQ s - vQ t)) hs ht hL (enters_of Tryz.func59 (by kernel_rfl) rfl)
  (fun W v u h1 h2 hv hu hLW => q_Sub1 W v u _ _ hv hu (sml_vQ h1) (sml_vQ h2) hLW))
 rw [t2B, t2E (f := (· - ·))] at H
 obtain ⟨B, hB⟩ : ∃ B, op2B (· - ·) s t = B := ⟨_, rfl⟩
 obtain ⟨E, hE⟩ : ∃ E, op2E (· - ·) s t = E := ⟨_, rfl⟩
 rw [hB, hE] at H ⊢
 clear hB hE hs ht hL
 go_enter Tryz.func29, Tryz.ntmps29
 go_wp2_with fail
 refine H.out.mono ?_; rintro e w1 ⟨rfl, hb1⟩
 have y1 := hid hb1; clear hb1
 go_wp2_with fail
 go_ret2
 exact ⟨rfl, y1.out⟩
end Go.Proofs.YtgphopkifomffaaGreatDoor
namespace Go.Proofs.YtgphopkifomffaaGreatDoor
open Go.RowKit
open Go.Lib (decDigits nDigits)
theorem one_part {N D : Nat} : ∀ (n j x : Nat), sdx N D j = (x, true) → cvF (oneJ N D) (fun m => 2 ^ m) j n * D ≤ x * 2 ^ n
 | 0, j, x, h => by rw [cvF]; omega
 | n + 1, j, x, h => by
  rw [cvF]
  have eo : oneJ N D (j + 1) = decide (D ≤ 2 * x) := by rw [oneJ, h]; simp
  rw [eo, Nat.pow_succ]
  rcases Nat.lt_trichotomy (2 * x) D with hc | hc | hc
  ·have hs : sdx N D (j + 1) = (2 * x, true) := by rw [sdx, h]; simp; omega
   have ih := one_part n (j + 1) (2 * x) hs
   rw [if_neg (by simp; omega), Nat.zero_add]
   have : 2 * x * 2 ^ n = x * (2 ^ n * 2) := by rw [Nat.mul_comm 2 x, Nat.mul_assoc, Nat.mul_comm 2]
   omega
  ·have hs : (sdx N D (j + 1)).2 = false := by rw [sdx, h]; simp [hc]
   rw [if_pos (by simp; omega), cvF_none n (j + 1) (fun i hi => oneJ_shut hs i hi), Nat.add_zero, ← hc]
   have : 2 ^ n * (2 * x) = x * (2 ^ n * 2) := by rw [Nat.mul_comm 2 x, ← Nat.mul_assoc, Nat.mul_comm (2 ^ n) x, Nat.mul_assoc]
   omega
  ·have hs : sdx N D (j + 1) = (2 * x - D, true) := by
    rw [sdx, h]
    show (if true = true then (if D ≤ 2 * x then (2 * x - D, decide (2 * x ≠ D)) else (2 * x, true)) else (x, true)) = _
    rw [if_pos rfl, if_pos (by omega), decide_eq_true (by omega)]
   have ih := one_part n (j + 1) (2 * x - D) hs
   rw [if_pos (by simp; omega), Nat.add_mul]
   have e1 : x * (2 ^ n * 2) = 2 * x * 2 ^ n := by rw [Nat.mul_comm 2 x, Nat.mul_assoc, Nat.mul_comm 2]
   have e2 : (2 * x - D) * 2 ^ n + D * 2 ^ n = 2 * x * 2 ^ n := by rw [← Nat.add_mul]; congr 1; omega
   have e3 : 2 ^ n * D = D * 2 ^ n := Nat.mul_comm _ _
   omega
theorem zero_part {N D : Nat} : ∀ (n j x : Nat), sdx N D j = (x, true) → x < D → cvF (zeroJ N D) (fun m => 2 ^ m) j n * D ≤ (D - x) * 2 ^ n
 | 0, j, x, h, hx => by rw [cvF]; omega
 | n + 1, j, x, h, hx => by
  rw [cvF]
  have ez : zeroJ N D (j + 1) = decide (2 * x ≤ D) := by rw [zeroJ, h]; simp
  rw [ez, Nat.pow_succ]
  have e1 : (D - x) * (2 ^ n * 2) = 2 * (D - x) * 2 ^ n := by rw [Nat.mul_comm 2 (D - x), Nat.mul_assoc, Nat.mul_comm 2]
  have e3 : 2 ^ n * D = D * 2 ^ n := Nat.mul_comm _ _
  rcases Nat.lt_trichotomy (2 * x) D with hc | hc | hc
  ·have hs : sdx N D (j + 1) = (2 * x, true) := by rw [sdx, h]; simp; omega
   have ih := zero_part n (j + 1) (2 * x) hs hc
   rw [if_pos (by simp; omega), Nat.add_mul]
   have e2 : (D - 2 * x) * 2 ^ n + D * 2 ^ n = 2 * (D - x) * 2 ^ n := by rw [← Nat.add_mul]; congr 1; omega
   omega
  ·have hs : (sdx N D (j + 1)).2 = false := by rw [sdx, h]; simp [hc]
   rw [if_pos (by simp; omega), cvF_none n (j + 1) (fun i hi => zeroJ_shut hs i hi), Nat.add_zero]
   have e2 : 2 * (D - x) * 2 ^ n = D * 2 ^ n := by congr 1; omega
   omega
  ·have hs : sdx N D (j + 1) = (2 * x - D, true) := by
    rw [sdx, h]
    show (if true = true then (if D ≤ 2 * x then (2 * x - D, decide (2 * x ≠ D)) else (2 * x, true)) else (x, true)) = _
    rw [if_pos rfl, if_pos (by omega), decide_eq_true (by omega)]
   have ih := zero_part n (j + 1) (2 * x - D) hs (by omega)
   rw [if_neg (by simp; omega), Nat.zero_add]
   have e2 : (D - (2 * x - D)) * 2 ^ n = 2 * (D - x) * 2 ^ n := by congr 1; omega
   omega
section
variable {N D : Nat} (h : N < D)
include h
theorem one_all (n : Nat) : cvo (chi (oneJ N D)) pw2 n * D ≤ N * 2 ^ n := by
 have o0 : oneJ N D 0 = false := rfl
 rw [cvo_chi, o0, if_neg (by simp), Nat.zero_add]
 by_cases h0 : N = 0
 ·subst h0
  have hs : (sdx 0 D 0).2 = false := by simp [sdx]
  rw [cvF_none n 0 (fun i hi => oneJ_shut hs i hi)]; omega
 ·exact one_part n 0 N (by simp [sdx, h0])
theorem zero_all (n : Nat) : cvo (chi (zeroJ N D)) pw2 n * D ≤ (D - N) * 2 ^ n := by
 rw [cvo_chi]
 by_cases h0 : N = 0
 ·subst h0
  have hs : (sdx 0 D 0).2 = false := by simp [sdx]
  rw [cvF_none n 0 (fun i hi => zeroJ_shut hs i hi), Nat.add_zero]
  have e : (if zeroJ 0 D 0 = true then pw2 n else 0) ≤ 2 ^ n := by
   unfold pw2
   split
   ·exact Nat.le_refl _
   ·exact Nat.zero_le _
  rw [Nat.sub_zero, Nat.mul_comm D]
  exact Nat.mul_le_mul_right _ e
 ·have z0 : zeroJ N D 0 = false := by simp [zeroJ, h0]
  rw [z0, if_neg (by simp), Nat.zero_add]
  exact zero_part n 0 N (by simp [sdx, h0]) h
omit h in
theorem cvo_part {f g : Nat → Nat} {n c d P Q : Nat} (hf : cvo f pw2 n * Q ≤ P * 2 ^ n) (hg : ∀ m, m ≤ n → g m * c ≤ d * 2 ^ m) : cvo f g n * (c * Q) ≤ P * d * 2 ^ n := by
 have h1 : cvo f g n * c ≤ d * cvo f pw2 n := by
  unfold cvo
  rw [Nat.mul_comm, ← sumN_mul, ← sumN_mul]
  refine sumN_le fun s hs => ?_
  have := Nat.mul_le_mul_left (f s) (hg (n - s) (by omega))
  unfold pw2
  calc c * (f s * g (n - s)) = f s * (g (n - s) * c) := by rw [Nat.mul_comm, Nat.mul_assoc]
   _ ≤ f s * (d * 2 ^ (n - s)) := this
   _ = d * (f s * 2 ^ (n - s)) := by rw [← Nat.mul_assoc, Nat.mul_comm (f s), Nat.mul_assoc]
 calc cvo f g n * (c * Q) = cvo f g n * c * Q := (Nat.mul_assoc _ _ _).symm
  _ ≤ d * cvo f pw2 n * Q := Nat.mul_le_mul_right _ h1
  _ = d * (cvo f pw2 n * Q) := Nat.mul_assoc _ _ _
  _ ≤ d * (P * 2 ^ n) := Nat.mul_le_mul_left _ hf
  _ = P * d * 2 ^ n := by rw [← Nat.mul_assoc, Nat.mul_comm d]
theorem oneP_next (i n : Nat) : cw n (oneP N D (i + 1)) = cvo (chi (oneJ N D)) (fun m => cw m (oneP N D i)) n := by
 rw [cw_congr (Q := coinP N D 0 1 (oneP N D i) (fun _ => false)) (fun l _ => oneP_coin h (i + 1) l), cw_first h, cvo_congr (f := chi (zeroJ N D)) (f' := chi (zeroJ N D)) (g' := fun _ => 0) (fun _ _ => rfl) (fun m _ => cw_false m), cvo_zero, Nat.add_zero]
theorem twoP_next (i k n : Nat) : cw n (twoP N D (i + 1) k) = cvo (chi (oneJ N D)) (fun m => cw m (twoP N D i k)) n := by
 rw [cw_congr (Q := coinP N D 0 1 (twoP N D i k) (fun _ => false)) (fun l _ => twoP_coin h (i + 1) k l), cw_first h, cvo_congr (f := chi (zeroJ N D)) (f' := chi (zeroJ N D)) (g' := fun _ => 0) (fun _ _ => rfl) (fun m _ => cw_false m), cvo_zero, Nat.add_zero]
theorem oneP_part : ∀ i n, cw n (oneP N D i) * D ^ (i + 1) ≤ N ^ i * (D - N) * 2 ^ n
 | 0, n => by
  rw [cw_oneP h, cvo_congr (f' := chi (zeroJ N D)) (g' := pw2) (fun s _ => edn_zero N D s) (fun _ _ => rfl)]
  simpa using zero_all h n
 | i + 1, n => by
  rw [oneP_next h, Nat.pow_succ D (i + 1), Nat.pow_succ N i, Nat.mul_comm (N ^ i) N, Nat.mul_assoc N]
  exact cvo_part (one_all h n) fun m _ => oneP_part i m
theorem twoP_part (k : Nat) : ∀ i n, cw n (twoP N D i k) * D ^ (i + k + 2) ≤ N ^ (i + k) * (D - N) * (D - N) * 2 ^ n
 | 0, n => by
  have e : cw n (twoP N D 0 k) = cvo (chi (zeroJ N D)) (fun m => cw m (oneP N D k)) n := by
   rw [cw_twoP h k 0 n]
   exact cvo_congr (fun s _ => edn_zero N D s) fun m _ => (cw_oneP h k m).symm
  rw [e, Nat.zero_add, Nat.pow_succ D (k + 1), Nat.mul_comm _ (D - N)]
  exact cvo_part (zero_all h n) fun m _ => oneP_part h k m
 | i + 1, n => by
  rw [twoP_next h, show i + 1 + k + 2 = (i + k + 2) + 1 by omega, show i + 1 + k = (i + k) + 1 by omega, Nat.pow_succ D (i + k + 2), Nat.pow_succ N (i + k), Nat.mul_comm (N ^ (i + k)) N, Nat.mul_assoc N, Nat.mul_assoc N]
  exact cvo_part (one_all h n) fun m _ => twoP_part k i m
theorem twoP_swap (i k n : Nat) : cw n (twoP N D i k) = cw n (twoP N D k i) := by
 rw [cw_twoP h, cw_twoP h]
 exact cvo_swap _ _ _ _
theorem gV_neg (n : Nat) (v : Int) : gV N D true n (-v) = gV N D true n v := by
 rw [gV_two h, gV_two h, sumN_swap]
 refine sumN_congr fun i _ => sumN_congr fun k _ => ?_
 by_cases hv : (i : Int) - (k : Int) = v
 ·rw [if_pos hv, if_pos (by omega), twoP_swap h]
 ·rw [if_neg hv, if_neg (by omega)]
omit h in
omit h in
omit h in
end
theorem two_sum {N D : Nat} (h : N < D) (n v : Nat) : ∀ m, sumN (fun k => cw n (twoP N D (v + k) k)) m * (D + N) * D ^ (v + 2 * m) + 2 ^ n * (D - N) * N ^ v * N ^ (2 * m) ≤ 2 ^ n * (D - N) * N ^ v * D ^ (2 * m)
 | 0 => by simp [sumN]
 | m + 1 => by
  have ih := two_sum h n v m
  have ht := twoP_part h m (v + m) n
  rw [sumN]
  obtain ⟨e, rfl⟩ : ∃ e, D = N + e := ⟨D - N, by omega⟩
  rw [show N + e - N = e by omega] at *
  rw [show v + m + m = v + 2 * m by omega, Nat.pow_add N v, Nat.pow_add (N + e) (v + 2 * m) 2] at ht
  rw [show v + 2 * (m + 1) = v + 2 * m + 2 by omega, show 2 * (m + 1) = 2 * m + 2 by omega, Nat.pow_add (N + e) (v + 2 * m) 2, Nat.pow_add N (2 * m) 2, Nat.pow_add (N + e) (2 * m) 2]
  generalize sumN (fun k => cw n (twoP N (N + e) (v + k) k)) m = s at *
  generalize cw n (twoP N (N + e) (v + m) m) = t at *
  generalize (N + e) ^ (v + 2 * m) = P at *
  generalize (N + e) ^ (2 * m) = R at *
  generalize N ^ (2 * m) = Q at *
  generalize N ^ v = V at *
  generalize 2 ^ n = T at *
  calc (s + t) * (N + e + N) * (P * (N + e) ^ 2) + T * e * V * (Q * N ^ 2)
   = (N + e) ^ 2 * (s * (N + e + N) * P) + (N + e + N) * (t * (P * (N + e) ^ 2)) + T * e * V * (Q * N ^ 2) := by grind
   _ ≤ (N + e) ^ 2 * (s * (N + e + N) * P) + (N + e + N) * (V * Q * e * e * T) + T * e * V * (Q * N ^ 2) := Nat.add_le_add_right (Nat.add_le_add_left (Nat.mul_le_mul_left _ ht) _) _
   _ = (N + e) ^ 2 * (s * (N + e + N) * P + T * e * V * Q) := by grind
   _ ≤ (N + e) ^ 2 * (T * e * V * R) := Nat.mul_le_mul_left _ ih
   _ = T * e * V * (R * (N + e) ^ 2) := by grind
theorem gV_two_nat {N D : Nat} (h : N < D) (n v : Nat) : gV N D true n (v : Nat) ≤ sumN (fun k => cw n (twoP N D (v + k) k)) (n + 1) := by
 rw [gV_two h, sumN_swap]
 refine sumN_le fun k hk => ?_
 have e : ∀ m, sumN (fun i => if (i : Int) - (k : Int) = (v : Int) then cw n (twoP N D i k) else 0) m = if v + k < m then cw n (twoP N D (v + k) k) else 0 := fun m => by
  rw [← sumN_pick]
  refine sumN_congr fun i _ => ?_
  by_cases hi : i = v + k
  ·subst hi; rw [if_pos (by omega), if_pos rfl]
  ·rw [if_neg (by omega), if_neg hi]
 rw [e]
 split <;> omega
theorem gV_two_le {N D : Nat} (h : N < D) (n : Nat) (v : Int) : gV N D true n v * (D ^ v.natAbs * (D + N)) ≤ N ^ v.natAbs * (D - N) * 2 ^ n := by
 have key : ∀ v : Nat, gV N D true n (v : Nat) * (D ^ v * (D + N)) ≤ N ^ v * (D - N) * 2 ^ n := fun v => by
  have h1 := two_sum h n v (n + 1)
  have h2 := gV_two_nat h n v
  have h3 : 0 < D ^ (2 * (n + 1)) := Nat.pow_pos (by omega)
  rw [Nat.pow_add] at h1
  generalize sumN (fun k => cw n (twoP N D (v + k) k)) (n + 1) = s at *
  generalize D ^ (2 * (n + 1)) = R at *
  refine Nat.le_of_mul_le_mul_right (c := R) ?_ h3
  calc gV N D true n (v : Nat) * (D ^ v * (D + N)) * R ≤ s * (D ^ v * (D + N)) * R := Nat.mul_le_mul_right _ (Nat.mul_le_mul_right _ h2)
   _ = s * (D + N) * (D ^ v * R) := by grind
   _ ≤ 2 ^ n * (D - N) * N ^ v * R := by omega
   _ = N ^ v * (D - N) * 2 ^ n * R := by generalize D - N = e; grind
 rcases Int.natAbs_eq v with hv | hv
 ·rw [hv, Int.natAbs_natCast]; exact key _
 ·rw [hv, gV_neg h, Int.natAbs_neg, Int.natAbs_natCast]; exact key _
end Go.Proofs.YtgphopkifomffaaGreatDoor
namespace Go.Proofs.YtgphopkifomffaaGreatDoor
open Go.RowKit
def msT (N D W : Nat) (v : Int) : Nat := if v.natAbs ≤ W then N ^ v.natAbs * (D - N) * D ^ (W - v.natAbs) else 0
theorem zS_split (n : Nat) (f : Int → Nat) : zS n f = f 0 + sumN (fun j => f ((j : Int) + 1) + f (-((j : Int) + 1))) n := by
 induction n generalizing f with
 | zero => simp [zS, sumN]
 | succ n ih =>
  have e : zS (n + 1) f = f (-((n : Int) + 1)) + zS n f + f ((n : Int) + 1) := by
   unfold zS
   rw [show 2 * (n + 1) + 1 = (2 * n + 1 + 1) + 1 by omega, sumN, sumN_shift]
   have a1 : (((0 : Nat) : Int) - ((n + 1 : Nat) : Int)) = -((n : Int) + 1) := by omega
   have a2 : (((2 * n + 1 + 1 : Nat) : Int) - ((n + 1 : Nat) : Int)) = (n : Int) + 1 := by omega
   rw [a1, a2, sumN_congr (d := fun j => f ((j : Int) - n)) (fun j _ => by
    have : (((j + 1 : Nat) : Int) - ((n + 1 : Nat) : Int)) = (j : Int) - n := by omega
    rw [this])]
  rw [e, ih, sumN]
  omega
theorem msT_half {N D W : Nat} (h : N ≤ D) : ∀ m, m ≤ W → sumN (fun j => msT N D W ((j : Int) + 1)) m + N ^ (m + 1) * D ^ (W - m) = N * D ^ W
 | 0, _ => by simp [sumN]
 | m + 1, hm => by
  have ih := msT_half (W := W) h m (by omega)
  rw [sumN]
  have e1 : msT N D W ((m : Int) + 1) = N ^ (m + 1) * (D - N) * D ^ (W - (m + 1)) := by
   unfold msT
   rw [show ((m : Int) + 1).natAbs = m + 1 by omega, if_pos hm]
  rw [e1]
  obtain ⟨e, he⟩ : ∃ e, W - m = e + 1 := ⟨W - m - 1, by omega⟩
  rw [he] at ih
  rw [show W - (m + 1) = e by omega]
  have h1 : N ^ (m + 1) * D ^ (e + 1) = N ^ (m + 1) * (D - N) * D ^ e + N ^ (m + 1 + 1) * D ^ e := by
   obtain ⟨d, rfl⟩ : ∃ d, D = N + d := ⟨D - N, by omega⟩
   rw [show N + d - N = d by omega, Nat.pow_succ N (m + 1), Nat.pow_succ (N + d), ← Nat.add_mul, ← Nat.mul_add, Nat.mul_assoc, Nat.mul_comm ((N + d) ^ e), Nat.add_comm d N]
  omega
theorem msT_all {N D : Nat} (W : Nat) (h : N ≤ D) : zS W (msT N D W) ≤ (D + N) * D ^ W := by
 rw [zS_split]
 have e0 : msT N D W 0 = (D - N) * D ^ W := by
  unfold msT
  rw [show (0 : Int).natAbs = 0 from rfl, if_pos (Nat.zero_le _), Nat.pow_zero, Nat.one_mul, Nat.sub_zero]
 have e1 : sumN (fun j => msT N D W ((j : Int) + 1) + msT N D W (-((j : Int) + 1))) W = 2 * sumN (fun j => msT N D W ((j : Int) + 1)) W := by
  rw [← sumN_mul]
  refine sumN_congr fun j _ => ?_
  have : msT N D W (-((j : Int) + 1)) = msT N D W ((j : Int) + 1) := by
   unfold msT
   rw [Int.natAbs_neg]
  rw [this]; omega
 rw [e0, e1]
 have h2 := msT_half (W := W) h W (Nat.le_refl _)
 obtain ⟨d, rfl⟩ : ∃ d, D = N + d := ⟨D - N, by omega⟩
 rw [show N + d - N = d by omega, Nat.add_mul, Nat.add_mul N d]
 omega
theorem msT_shift {N D W u : Nat} (h : N ≤ D) {x y : Int} (hx : (y - x).natAbs ≤ u) (hW : x.natAbs + u ≤ W) : msT N D W x * N ^ u ≤ msT N D W y * D ^ u := by
 unfold msT
 rw [if_pos (by omega), if_pos (by omega)]
 obtain ⟨e, he⟩ : ∃ e, x.natAbs + u = y.natAbs + e := ⟨x.natAbs + u - y.natAbs, by omega⟩
 have h1 : N ^ x.natAbs * N ^ u = N ^ y.natAbs * N ^ e := by rw [← Nat.pow_add, ← Nat.pow_add, he]
 have h2 : D ^ (W - y.natAbs) * D ^ u = D ^ (W - x.natAbs) * D ^ e := by rw [← Nat.pow_add, ← Nat.pow_add]; congr 1; omega
 calc N ^ x.natAbs * (D - N) * D ^ (W - x.natAbs) * N ^ u = (N ^ x.natAbs * N ^ u) * (D - N) * D ^ (W - x.natAbs) := by ac_rfl
  _ = N ^ y.natAbs * N ^ e * (D - N) * D ^ (W - x.natAbs) := by rw [h1]
  _ ≤ N ^ y.natAbs * D ^ e * (D - N) * D ^ (W - x.natAbs) := Nat.mul_le_mul_right _ (Nat.mul_le_mul_right _ (Nat.mul_le_mul_left _ (Nat.pow_le_pow_left h e)))
  _ = N ^ y.natAbs * (D - N) * (D ^ (W - x.natAbs) * D ^ e) := by ac_rfl
  _ = N ^ y.natAbs * (D - N) * D ^ (W - y.natAbs) * D ^ u := by rw [← h2]; ac_rfl
theorem gV_mst {N D n W : Nat} (h : N < D) (hW : n ≤ W) (v : Int) : gV N D true n v * ((D + N) * D ^ W) ≤ msT N D W v * 2 ^ n := by
 by_cases hv : v.natAbs ≤ W
 ·have h1 := gV_two_le h n v
  unfold msT
  rw [if_pos hv]
  have e : D ^ W = D ^ v.natAbs * D ^ (W - v.natAbs) := by rw [← Nat.pow_add]; congr 1; omega
  rw [e]
  calc gV N D true n v * ((D + N) * (D ^ v.natAbs * D ^ (W - v.natAbs))) = gV N D true n v * (D ^ v.natAbs * (D + N)) * D ^ (W - v.natAbs) := by ac_rfl
   _ ≤ N ^ v.natAbs * (D - N) * 2 ^ n * D ^ (W - v.natAbs) := Nat.mul_le_mul_right _ h1
   _ = N ^ v.natAbs * (D - N) * D ^ (W - v.natAbs) * 2 ^ n := by ac_rfl
 ·rw [gV_out h (by omega), Nat.zero_mul]; exact Nat.zero_le _
theorem sumN_split (u : Nat → Nat) (a : Nat) : ∀ b, sumN u (a + b) = sumN u a + sumN (fun j => u (a + j)) b
 | 0 => rfl
 | b + 1 => by
  rw [← Nat.add_assoc, sumN, sumN_split u a b, sumN]; omega
theorem zS_shift_le {R W : Nat} (f : Int → Nat) {d : Int} (h : R + d.natAbs ≤ W) : zS R (fun x => f (x + d)) ≤ zS W f := by
 obtain ⟨o, ho⟩ : ∃ o : Nat, (o : Int) = W - R + d := ⟨(W - R + d : Int).toNat, by omega⟩
 unfold zS
 rw [sumN_congr (d := fun j => f (((o + j : Nat) : Int) - W)) (fun j _ => by show f _ = f _; congr 1; omega)]
 have := sumN_split (fun j => f ((j : Int) - W)) o (2 * R + 1)
 have h2 := sumN_mono (f := fun j => f ((j : Int) - W)) (show o + (2 * R + 1) ≤ 2 * W + 1 by omega)
 omega
theorem zS_wide {n W : Nat} {f : Int → Nat} (h : n ≤ W) (hf : ∀ v : Int, v < -(n : Int) ∨ (n : Int) < v → f v = 0) : zS W f = zS n f := by
 unfold zS
 have e1 := sumN_split (fun j => f ((j : Int) - W)) (W - n) (2 * n + 1 + (W - n))
 have e2 := sumN_split (fun j => f (((W - n + j : Nat) : Int) - W)) (2 * n + 1) (W - n)
 rw [show W - n + (2 * n + 1 + (W - n)) = 2 * W + 1 by omega] at e1
 rw [e1, e2, sumN_congr (d := fun _ => 0) (fun j hj => hf _ (by omega)), sumN_zero, sumN_congr (c := fun j => f (((W - n + (2 * n + 1 + j) : Nat) : Int) - W)) (d := fun _ => 0) (fun j hj => hf _ (by omega)), sumN_zero, Nat.zero_add, Nat.add_zero]
 refine sumN_congr fun j hj => ?_
 congr 1
 omega
theorem zS_shift {n R : Nat} {f : Int → Nat} {d : Int} (h : n + d.natAbs ≤ R) (hf : ∀ v : Int, v < -(n : Int) ∨ (n : Int) < v → f v = 0) : zS R (fun x => f (x + d)) = zS n f := by
 refine Nat.le_antisymm ?_ ?_
 ·rw [← zS_wide (W := R + d.natAbs) (by omega) hf]
  exact zS_shift_le f (Nat.le_refl _)
 ·have := zS_shift_le (R := n) (W := R) (fun x => f (x + d)) (d := -d) (by omega)
  rwa [zS_congr (g := f) (fun v _ _ => by show f _ = f _; congr 1; omega)] at this
def prW : List (Int → Nat) → List Int → Nat
 | g :: gs, x :: xs => g x * prW gs xs
 | _, _ => 1
def one1 : Int → Nat := fun _ => 1
theorem vw_unit (n : Nat) : ∀ (gs : List (Int → Nat)) (F : List Int → Nat), vw n gs F = vw n (List.replicate gs.length one1) (fun xs => prW gs xs * F xs)
 | [], F => by simp [vw, prW]
 | g :: gs, F => by
  rw [List.length_cons, List.replicate_succ, vw, vw]
  refine zS_congr fun x _ _ => ?_
  rw [vw_unit n gs, ← vw_mul]
  unfold one1
  rw [Nat.one_mul]
  exact vw_congr fun xs _ _ => by rw [prW]; exact (Nat.mul_assoc _ _ _).symm
theorem pAll_unit (n : Nat) (gs : List (Int → Nat)) : pAll n gs = vw n (List.replicate gs.length one1) (prW gs) := by
 unfold pAll
 rw [vw_unit]
 exact vw_congr fun xs _ _ => Nat.mul_one _
def shL (g : Int → Nat) (ds : List Int) : List (Int → Nat) := ds.map fun d x => g (x + d)
def absS (ds : List Int) : Nat := (ds.map Int.natAbs).sum
theorem pAll_sh {n : Nat} {g : Int → Nat} (hg : ∀ v : Int, v < -(n : Int) ∨ (n : Int) < v → g v = 0) {R : Nat} : ∀ {ds : List Int}, n + absS ds ≤ R → pAll R (shL g ds) = zS n g ^ ds.length
 | [], _ => rfl
 | d :: ds, h => by
  have e : absS (d :: ds) = d.natAbs + absS ds := by simp [absS]
  rw [e] at h
  rw [show shL g (d :: ds) = (fun x => g (x + d)) :: shL g ds from rfl, pAll_cons, zS_shift (by omega) hg, pAll_sh hg (by omega), List.length_cons, Nat.pow_succ, Nat.mul_comm]
theorem prW_up {N D n W R : Nat} (h : N < D) : ∀ (ds xs : List Int), n ≤ W → R + absS ds ≤ W → xs.length = ds.length → (∀ x ∈ xs, -(R : Int) ≤ x ∧ x ≤ R) →
 prW (List.replicate ds.length (gV N D true n)) xs * ((D + N) * D ^ W) ^ ds.length * N ^ absS ds ≤ prW (shL (msT N D W) ds) xs * (2 ^ n) ^ ds.length * D ^ absS ds
 | [], [], _, _, _, _ => by simp [prW, shL, absS]
 | d :: ds, x :: xs, hn, hW, hl, hx => by
  have e : absS (d :: ds) = d.natAbs + absS ds := by simp [absS]
  rw [e] at hW ⊢
  have hx0 := hx x (List.mem_cons_self ..)
  have ih := prW_up (n := n) (W := W) (R := R) h ds xs hn (by omega) (by simpa using hl) (fun y hy => hx y (List.mem_cons_of_mem _ hy))
  have h1 := gV_mst (n := n) h hn x
  have h2 := msT_shift (N := N) (D := D) (W := W) (u := d.natAbs) (by omega) (x := x) (y := x + d) (by omega) (by omega)
  rw [List.length_cons, List.replicate_succ, show shL (msT N D W) (d :: ds) = (fun x => msT N D W (x + d)) :: shL (msT N D W) ds from rfl, prW, prW, Nat.pow_succ, Nat.pow_succ, Nat.pow_add, Nat.pow_add]
  generalize prW (List.replicate ds.length (gV N D true n)) xs = P at *
  generalize prW (shL (msT N D W) ds) xs = Q at *
  generalize (D + N) * D ^ W = T at *
  generalize gV N D true n x = G at *
  generalize msT N D W x = A at *
  generalize msT N D W (x + d) = B at *
  calc G * P * (T ^ ds.length * T) * (N ^ d.natAbs * N ^ absS ds) = (G * T) * N ^ d.natAbs * (P * T ^ ds.length * N ^ absS ds) := by ac_rfl
   _ ≤ (A * 2 ^ n) * N ^ d.natAbs * (P * T ^ ds.length * N ^ absS ds) := Nat.mul_le_mul_right _ (Nat.mul_le_mul_right _ h1)
   _ ≤ (A * 2 ^ n) * N ^ d.natAbs * (Q * (2 ^ n) ^ ds.length * D ^ absS ds) := Nat.mul_le_mul_left _ ih
   _ = (A * N ^ d.natAbs) * 2 ^ n * (Q * (2 ^ n) ^ ds.length * D ^ absS ds) := by ac_rfl
   _ ≤ (B * D ^ d.natAbs) * 2 ^ n * (Q * (2 ^ n) ^ ds.length * D ^ absS ds) := Nat.mul_le_mul_right _ (Nat.mul_le_mul_right _ h2)
   _ = B * Q * ((2 ^ n) ^ ds.length * 2 ^ n) * (D ^ d.natAbs * D ^ absS ds) := by ac_rfl
theorem prW_to {N D n W : Nat} (h : N < D) (hn : n ≤ W) : ∀ (ds xs : List Int), xs.length = ds.length →
 prW (shL (gV N D true n) ds) xs * ((D + N) * D ^ W) ^ ds.length ≤ prW (shL (msT N D W) ds) xs * (2 ^ n) ^ ds.length
 | [], [], _ => by simp [prW, shL]
 | d :: ds, x :: xs, hl => by
  have ih := prW_to (n := n) (W := W) h hn ds xs (by simpa using hl)
  have h1 := gV_mst (n := n) h hn (x + d)
  rw [List.length_cons, show shL (msT N D W) (d :: ds) = (fun x => msT N D W (x + d)) :: shL (msT N D W) ds from rfl, show shL (gV N D true n) (d :: ds) = (fun x => gV N D true n (x + d)) :: shL (gV N D true n) ds from rfl, prW, prW, Nat.pow_succ, Nat.pow_succ]
  have := Nat.mul_le_mul h1 ih
  refine Nat.le_trans (Nat.le_of_eq ?_) (Nat.le_trans this (Nat.le_of_eq ?_))
  ·ac_rfl
  ·ac_rfl
theorem pAll_shM {N D W R : Nat} (h : N ≤ D) : ∀ {ds : List Int}, R + absS ds ≤ W → pAll R (shL (msT N D W) ds) ≤ ((D + N) * D ^ W) ^ ds.length
 | [], _ => by simp [shL, pAll, vw]
 | d :: ds, hW => by
  have e : absS (d :: ds) = d.natAbs + absS ds := by simp [absS]
  rw [e] at hW
  rw [show shL (msT N D W) (d :: ds) = (fun x => msT N D W (x + d)) :: shL (msT N D W) ds from rfl, pAll_cons, List.length_cons, Nat.pow_succ, Nat.mul_comm (_ ^ ds.length)]
  exact Nat.mul_le_mul (Nat.le_trans (zS_shift_le (msT N D W) (by omega)) (msT_all W h)) (pAll_shM h (by omega))
theorem near_core {P Q X N D T E : Nat} (hT : P * T * N ≤ X * E * D) (hQ : Q * T ≤ X * E) : (P * N - Q * D + Q * D) * T ≤ X * E * D := by
 rcases Nat.le_total (P * N) (Q * D) with hc | hc
 ·rw [Nat.sub_eq_zero_of_le hc, Nat.zero_add]
  calc Q * D * T = Q * T * D := by ac_rfl
   _ ≤ X * E * D := Nat.mul_le_mul_right _ hQ
 ·rw [Nat.sub_add_cancel hc]
  calc P * N * T = P * T * N := by ac_rfl
   _ ≤ X * E * D := hT
theorem nq_private {N D n R : Nat} (h : N < D) {ds : List Int} (hR : n + absS ds ≤ R) :
 vw R (List.replicate ds.length one1) (fun xs => prW (List.replicate ds.length (gV N D true n)) xs * N ^ absS ds - prW (shL (gV N D true n) ds) xs * D ^ absS ds) + zS n (gV N D true n) ^ ds.length * D ^ absS ds ≤ 2 ^ (n * ds.length) * D ^ absS ds := by
 obtain ⟨W, hW⟩ : ∃ W, R + absS ds = W := ⟨_, rfl⟩
 obtain ⟨T, hT⟩ : ∃ T, ((D + N) * D ^ W) ^ ds.length = T := ⟨_, rfl⟩
 have hTp : 0 < T := by rw [← hT]; exact Nat.pow_pos (Nat.mul_pos (by omega) (Nat.pow_pos (by omega)))
 have hE : (2 ^ n) ^ ds.length = 2 ^ (n * ds.length) := (Nat.pow_mul 2 n ds.length).symm
 have hall := pAll_sh (n := n) (g := gV N D true n) (fun v hv => gV_out h hv) (R := R) (ds := ds) hR
 have hM := pAll_shM (N := N) (D := D) (W := W) (R := R) (by omega) (ds := ds) (by omega)
 have hlenS : ∀ g, (shL g ds).length = ds.length := fun g => by simp [shL]
 rw [pAll_unit, hlenS] at hall hM
 rw [hT] at hM
 rw [← hall, ← Nat.mul_comm (D ^ absS ds), ← vw_mul, ← vw_add]
 refine Nat.le_of_mul_le_mul_right (c := T) ?_ hTp
 have hpt : vw R (List.replicate ds.length one1) (fun xs => T * (prW (List.replicate ds.length (gV N D true n)) xs * N ^ absS ds - prW (shL (gV N D true n) ds) xs * D ^ absS ds + D ^ absS ds * prW (shL (gV N D true n) ds) xs)) ≤ vw R (List.replicate ds.length one1) (fun xs => 2 ^ (n * ds.length) * D ^ absS ds * prW (shL (msT N D W) ds) xs) := by
  have key : ∀ xs : List Int, xs.length = ds.length → (∀ x ∈ xs, -(R : Int) ≤ x ∧ x ≤ R) → T * (prW (List.replicate ds.length (gV N D true n)) xs * N ^ absS ds - prW (shL (gV N D true n) ds) xs * D ^ absS ds + D ^ absS ds * prW (shL (gV N D true n) ds) xs) ≤ 2 ^ (n * ds.length) * D ^ absS ds * prW (shL (msT N D W) ds) xs := fun xs hl hx => by
   have u1 := prW_up (n := n) (W := W) (R := R) h ds xs (by omega) (by omega) hl hx
   have u2 := prW_to (n := n) (W := W) h (by omega) ds xs hl
   rw [hT, hE] at u1 u2
   have := near_core u1 u2
   rw [Nat.mul_comm T, Nat.mul_comm (D ^ absS ds) (prW _ _)]
   refine Nat.le_trans this (Nat.le_of_eq ?_)
   ac_rfl
  have hvw : ∀ (gs : List (Int → Nat)) (F G : List Int → Nat), (∀ xs : List Int, xs.length = gs.length → (∀ x ∈ xs, -(R : Int) ≤ x ∧ x ≤ R) → F xs ≤ G xs) → vw R gs F ≤ vw R gs G := by
   intro gs
   induction gs with
   | nil => intro F G hh; exact hh [] rfl (by simp)
   | cons g gs ih =>
    intro F G hh
    exact zS_le fun v h1 h2 => Nat.mul_le_mul_left _ (ih _ _ fun r hr hb => hh (v :: r) (by simp [hr]) (by
     intro x hx
     rcases List.mem_cons.1 hx with rfl | hx
     ·exact ⟨h1, h2⟩
     ·exact hb x hx))
  exact hvw _ _ _ fun xs hl hx => key xs (by simpa using hl) hx
 rw [vw_mul, vw_mul] at hpt
 rw [Nat.mul_comm _ T]
 refine Nat.le_trans hpt ?_
 rw [Nat.mul_comm (2 ^ (n * ds.length)) (D ^ absS ds), Nat.mul_comm (D ^ absS ds) (2 ^ _), Nat.mul_comm _ T, ← Nat.mul_comm (vw _ _ _)]
 exact Nat.mul_le_mul_right _ hM
theorem r1_MinusF (w : World) (v u : Value) (a b : Nat) (ha : IsN .i64 w v a) (hb : IsN .i64 w u b) (hle : b ≤ a) (hla : (limbs a).length ≤ 1000000) :
 Calls Tryz.prog 135 #[v, u] w fun e w' => RetFr w.heap.size .i64 (a - b) e w' ∧ Below w.heap.size w w' := by
 obtain ⟨i0, hi, hz0, hz1, hz2⟩ := info_parts info_int
 obtain ⟨a1, c1, rfl, h1, h2, h3⟩ := ha.openI
 obtain ⟨a2, c2, rfl, k1, k2, k3⟩ := hb.openI
 have H3 := hid h3; have K3 := hid k3; clear h3 k3 ha hb
 have hmn := limbs_length_mono hle
 obtain ⟨n, ea⟩ : ∃ n, (limbs a).length = n := ⟨_, rfl⟩
 obtain ⟨m, eb⟩ : ∃ m, (limbs b).length = m := ⟨_, rfl⟩
 rw [ea] at h1 hla hmn ⊢
 rw [eb] at k1 hmn ⊢
 have HA := hid ea; have HB := hid eb; have HL := hid hle
 clear ea eb hle
 go_enter Tryz.func135, Tryz.ntmps135
 go_wp2_with fail
 go_loopw [5, 6, 7, 8] (fun o cc i nn wr => ∃ (s : List Nat) (c : Nat) (C : Int), i = .int .i64 s.length ∧ cc = .int .i64 C ∧ C = (c : Int) ∧ c ≤ 1 ∧ s.length ≤ n ∧ Hid (MinusI a b s c) ∧ Hid (wr.ownsRow w.heap.size 3 1 o s.length (ints .i64 s)) ∧ Hid (Below w.heap.size w wr))
  (fun _ _ i _ _ => n - (intOf i).toNat)
 case atStart => exact ⟨[], 0, 0, rfl, rfl, rfl, by omega, by simp, MinusI.start a b, World.ownsRow_nil _ _ _ _, Below.refl _ _⟩
 case round =>
  obtain ⟨s, c, C, rfl, rfl, hC, hc1, hs1, hP, hO, hB⟩ := hrel
  obtain ⟨ao, co, rfl⟩ := owns_ex hO.out
  by_cases hA : s.length < n
  ·obtain ⟨x, hx⟩ : ∃ x, (limbs a)[s.length]? = some x := ⟨_, List.getElem?_eq_getElem (by rw [HA.out]; exact hA)⟩
   obtain ⟨g, og, rfl, hg, hc⟩ := H3.out _ x hx
   have hc' := (hB.out.cell (p := ⟨g, og + s.length, none⟩) hg).trans hc
   have hxl := (sm_limbs a).get hx
   have HX := hid hx; clear hx hc
   by_cases hB' : s.length < m
   ·obtain ⟨y, hy⟩ : ∃ y, (limbs b)[s.length]? = some y := ⟨_, List.getElem?_eq_getElem (by rw [HB.out]; exact hB')⟩
    obtain ⟨g', og', rfl, hg', hd⟩ := K3.out _ y hy
    have hd' := (hB.out.cell (p := ⟨g', og' + s.length, none⟩) hg').trans hd
    have hyl := (sm_limbs b).get hy
    have HY := hid hy; clear hy hd
    rcases (show c = 0 ∨ c = 1 by omega) with rfl | rfl
    ·obtain rfl : C = 0 := by omega
     clear hC
     by_cases hneg : x < y + 0
     ·obtain ⟨z, hz0', hz1', hzI⟩ : ∃ z : Nat, x + 1000000000 * 1 = z + 0 + y ∧ z < 1000000000 ∧ Hid ((↑x - ↑y + 1000000000 : Int) = (z : Int)) := ⟨((↑x - ↑y + 1000000000 : Int)).toNat, by omega, by omega, by rw [Hid]; omega⟩
      have HN := hid (hP.out.next (z := z) (c' := 1) (by rw [getD_of HX.out, getD_of HY.out]; omega) hz1' (by omega))
      clear hz0' hz1'
      have q1 : decide ((x : Int) - (y : Int) < 0) = true := by simp <;> omega
      clear hneg
      go_wp2_with (at_builtin; refine wpList_append_own _ rfl _ _ 80 rfl w.heap.size 3 i0 (.int .i64 0) 1 8 Tryz.underlying80 hi hz0 hz1 hz2 rfl (by decide) _ s.length _ rfl (hO.out.alloc _) ⟨wr.heap.size, 0, none⟩ 1 1 [.int .i64 ((↑x - ↑y + 1000000000 : Int))] rfl rfl (cell_one_new wr (.int .i64 ((↑x - ↑y + 1000000000 : Int))) 3) (by simp [Value.oneCell']) (by unfold maxLen; omega) (by omega) (by have := hB.out.size; simp; omega) ?_; intro v' w3 hown3 hgrow3 _; have HO3 := hid hown3; have HG3 := hid hgrow3; clear hown3 hgrow3)
      rw [hzI.out] at HO3
      obtain ⟨n1, n2⟩ := own_next hO.out hB.out HO3.out HG3.out
      have N1 := hid n1; have N2 := hid n2; clear n1 n2 HO3 HG3
      obtain ⟨a3, k3, rfl⟩ := owns_ex N1.out
      go_wp2_with fail
      go_roundw
      case rel => exact ⟨s ++ [z], 1, _, by simp, rfl, by simp, by omega, by simp <;> omega, HN, N1, N2⟩
      case measure => simp [intOf] <;> omega
     ·obtain ⟨z, hz0', hz1', hzI⟩ : ∃ z : Nat, x + 1000000000 * 0 = z + 0 + y ∧ z < 1000000000 ∧ Hid ((↑x - ↑y : Int) = (z : Int)) := ⟨((↑x - ↑y : Int)).toNat, by omega, by omega, by rw [Hid]; omega⟩
      have HN := hid (hP.out.next (z := z) (c' := 0) (by rw [getD_of HX.out, getD_of HY.out]; omega) hz1' (by omega))
      clear hz0' hz1'
      have q1 : decide ((x : Int) - (y : Int) < 0) = false := by simp <;> omega
      clear hneg
      go_wp2_with (at_builtin; refine wpList_append_own _ rfl _ _ 80 rfl w.heap.size 3 i0 (.int .i64 0) 1 8 Tryz.underlying80 hi hz0 hz1 hz2 rfl (by decide) _ s.length _ rfl (hO.out.alloc _) ⟨wr.heap.size, 0, none⟩ 1 1 [.int .i64 ((↑x - ↑y : Int))] rfl rfl (cell_one_new wr (.int .i64 ((↑x - ↑y : Int))) 3) (by simp [Value.oneCell']) (by unfold maxLen; omega) (by omega) (by have := hB.out.size; simp; omega) ?_; intro v' w3 hown3 hgrow3 _; have HO3 := hid hown3; have HG3 := hid hgrow3; clear hown3 hgrow3)
      rw [hzI.out] at HO3
      obtain ⟨n1, n2⟩ := own_next hO.out hB.out HO3.out HG3.out
      have N1 := hid n1; have N2 := hid n2; clear n1 n2 HO3 HG3
      obtain ⟨a3, k3, rfl⟩ := owns_ex N1.out
      go_wp2_with fail
      go_roundw
      case rel => exact ⟨s ++ [z], 0, _, by simp, rfl, by simp, by omega, by simp <;> omega, HN, N1, N2⟩
      case measure => simp [intOf] <;> omega
    ·obtain rfl : C = 1 := by omega
     clear hC
     by_cases hneg : x < y + 1
     ·obtain ⟨z, hz0', hz1', hzI⟩ : ∃ z : Nat, x + 1000000000 * 1 = z + 1 + y ∧ z < 1000000000 ∧ Hid ((↑x - 1 - ↑y + 1000000000 : Int) = (z : Int)) := ⟨((↑x - 1 - ↑y + 1000000000 : Int)).toNat, by omega, by omega, by rw [Hid]; omega⟩
      have HN := hid (hP.out.next (z := z) (c' := 1) (by rw [getD_of HX.out, getD_of HY.out]; omega) hz1' (by omega))
      clear hz0' hz1'
      have q1 : decide ((x : Int) - 1 - (y : Int) < 0) = true := by simp <;> omega
      clear hneg
      go_wp2_with (at_builtin; refine wpList_append_own _ rfl _ _ 80 rfl w.heap.size 3 i0 (.int .i64 0) 1 8 Tryz.underlying80 hi hz0 hz1 hz2 rfl (by decide) _ s.length _ rfl (hO.out.alloc _) ⟨wr.heap.size, 0, none⟩ 1 1 [.int .i64 ((↑x - 1 - ↑y + 1000000000 : Int))] rfl rfl (cell_one_new wr (.int .i64 ((↑x - 1 - ↑y + 1000000000 : Int))) 3) (by simp [Value.oneCell']) (by unfold maxLen; omega) (by omega) (by have := hB.out.size; simp; omega) ?_; intro v' w3 hown3 hgrow3 _; have HO3 := hid hown3; have HG3 := hid hgrow3; clear hown3 hgrow3)
      rw [hzI.out] at HO3
      obtain ⟨n1, n2⟩ := own_next hO.out hB.out HO3.out HG3.out
      have N1 := hid n1; have N2 := hid n2; clear n1 n2 HO3 HG3
      obtain ⟨a3, k3, rfl⟩ := owns_ex N1.out
      go_wp2_with fail
      go_roundw
      case rel => exact ⟨s ++ [z], 1, _, by simp, rfl, by simp, by omega, by simp <;> omega, HN, N1, N2⟩
      case measure => simp [intOf] <;> omega
     ·obtain ⟨z, hz0', hz1', hzI⟩ : ∃ z : Nat, x + 1000000000 * 0 = z + 1 + y ∧ z < 1000000000 ∧ Hid ((↑x - 1 - ↑y : Int) = (z : Int)) := ⟨((↑x - 1 - ↑y : Int)).toNat, by omega, by omega, by rw [Hid]; omega⟩
      have HN := hid (hP.out.next (z := z) (c' := 0) (by rw [getD_of HX.out, getD_of HY.out]; omega) hz1' (by omega))
      clear hz0' hz1'
      have q1 : decide ((x : Int) - 1 - (y : Int) < 0) = false := by simp <;> omega
      clear hneg
      go_wp2_with (at_builtin; refine wpList_append_own _ rfl _ _ 80 rfl w.heap.size 3 i0 (.int .i64 0) 1 8 Tryz.underlying80 hi hz0 hz1 hz2 rfl (by decide) _ s.length _ rfl (hO.out.alloc _) ⟨wr.heap.size, 0, none⟩ 1 1 [.int .i64 ((↑x - 1 - ↑y : Int))] rfl rfl (cell_one_new wr (.int .i64 ((↑x - 1 - ↑y : Int))) 3) (by simp [Value.oneCell']) (by unfold maxLen; omega) (by omega) (by have := hB.out.size; simp; omega) ?_; intro v' w3 hown3 hgrow3 _; have HO3 := hid hown3; have HG3 := hid hgrow3; clear hown3 hgrow3)
      rw [hzI.out] at HO3
      obtain ⟨n1, n2⟩ := own_next hO.out hB.out HO3.out HG3.out
      have N1 := hid n1; have N2 := hid n2; clear n1 n2 HO3 HG3
      obtain ⟨a3, k3, rfl⟩ := owns_ex N1.out
      go_wp2_with fail
      go_roundw
      case rel => exact ⟨s ++ [z], 0, _, by simp, rfl, by simp, by omega, by simp <;> omega, HN, N1, N2⟩
      case measure => simp [intOf] <;> omega
   ·skip
    rcases (show c = 0 ∨ c = 1 by omega) with rfl | rfl
    ·obtain rfl : C = 0 := by omega
     clear hC
     by_cases hneg : x < 0 + 0
     ·omega
     ·obtain ⟨z, hz0', hz1', hzI⟩ : ∃ z : Nat, x + 1000000000 * 0 = z + 0 + 0 ∧ z < 1000000000 ∧ Hid ((↑x : Int) = (z : Int)) := ⟨((↑x : Int)).toNat, by omega, by omega, by rw [Hid]; omega⟩
      have HN := hid (hP.out.next (z := z) (c' := 0) (by rw [getD_of HX.out, getD_none (by rw [HB.out]; omega)]; omega) hz1' (by omega))
      clear hz0' hz1'
      have q1 : decide ((x : Int) < 0) = false := by simp <;> omega
      clear hneg
      go_wp2_with (at_builtin; refine wpList_append_own _ rfl _ _ 80 rfl w.heap.size 3 i0 (.int .i64 0) 1 8 Tryz.underlying80 hi hz0 hz1 hz2 rfl (by decide) _ s.length _ rfl (hO.out.alloc _) ⟨wr.heap.size, 0, none⟩ 1 1 [.int .i64 ((↑x : Int))] rfl rfl (cell_one_new wr (.int .i64 ((↑x : Int))) 3) (by simp [Value.oneCell']) (by unfold maxLen; omega) (by omega) (by have := hB.out.size; simp; omega) ?_; intro v' w3 hown3 hgrow3 _; have HO3 := hid hown3; have HG3 := hid hgrow3; clear hown3 hgrow3)
      rw [hzI.out] at HO3
      obtain ⟨n1, n2⟩ := own_next hO.out hB.out HO3.out HG3.out
      have N1 := hid n1; have N2 := hid n2; clear n1 n2 HO3 HG3
      obtain ⟨a3, k3, rfl⟩ := owns_ex N1.out
      go_wp2_with fail
      go_roundw
      case rel => exact ⟨s ++ [z], 0, _, by simp, rfl, by simp, by omega, by simp <;> omega, HN, N1, N2⟩
      case measure => simp [intOf] <;> omega
    ·obtain rfl : C = 1 := by omega
     clear hC
     by_cases hneg : x < 0 + 1
     ·obtain ⟨z, hz0', hz1', hzI⟩ : ∃ z : Nat, x + 1000000000 * 1 = z + 1 + 0 ∧ z < 1000000000 ∧ Hid ((↑x - 1 + 1000000000 : Int) = (z : Int)) := ⟨((↑x - 1 + 1000000000 : Int)).toNat, by omega, by omega, by rw [Hid]; omega⟩
      have HN := hid (hP.out.next (z := z) (c' := 1) (by rw [getD_of HX.out, getD_none (by rw [HB.out]; omega)]; omega) hz1' (by omega))
      clear hz0' hz1'
      have q1 : decide ((x : Int) - 1 < 0) = true := by simp <;> omega
      clear hneg
      go_wp2_with (at_builtin; refine wpList_append_own _ rfl _ _ 80 rfl w.heap.size 3 i0 (.int .i64 0) 1 8 Tryz.underlying80 hi hz0 hz1 hz2 rfl (by decide) _ s.length _ rfl (hO.out.alloc _) ⟨wr.heap.size, 0, none⟩ 1 1 [.int .i64 ((↑x - 1 + 1000000000 : Int))] rfl rfl (cell_one_new wr (.int .i64 ((↑x - 1 + 1000000000 : Int))) 3) (by simp [Value.oneCell']) (by unfold maxLen; omega) (by omega) (by have := hB.out.size; simp; omega) ?_; intro v' w3 hown3 hgrow3 _; have HO3 := hid hown3; have HG3 := hid hgrow3; clear hown3 hgrow3)
      rw [hzI.out] at HO3
      obtain ⟨n1, n2⟩ := own_next hO.out hB.out HO3.out HG3.out
      have N1 := hid n1; have N2 := hid n2; clear n1 n2 HO3 HG3
      obtain ⟨a3, k3, rfl⟩ := owns_ex N1.out
      go_wp2_with fail
      go_roundw
      case rel => exact ⟨s ++ [z], 1, _, by simp, rfl, by simp, by omega, by simp <;> omega, HN, N1, N2⟩
      case measure => simp [intOf] <;> omega
     ·obtain ⟨z, hz0', hz1', hzI⟩ : ∃ z : Nat, x + 1000000000 * 0 = z + 1 + 0 ∧ z < 1000000000 ∧ Hid ((↑x - 1 : Int) = (z : Int)) := ⟨((↑x - 1 : Int)).toNat, by omega, by omega, by rw [Hid]; omega⟩
      have HN := hid (hP.out.next (z := z) (c' := 0) (by rw [getD_of HX.out, getD_none (by rw [HB.out]; omega)]; omega) hz1' (by omega))
      clear hz0' hz1'
      have q1 : decide ((x : Int) - 1 < 0) = false := by simp <;> omega
      clear hneg
      go_wp2_with (at_builtin; refine wpList_append_own _ rfl _ _ 80 rfl w.heap.size 3 i0 (.int .i64 0) 1 8 Tryz.underlying80 hi hz0 hz1 hz2 rfl (by decide) _ s.length _ rfl (hO.out.alloc _) ⟨wr.heap.size, 0, none⟩ 1 1 [.int .i64 ((↑x - 1 : Int))] rfl rfl (cell_one_new wr (.int .i64 ((↑x - 1 : Int))) 3) (by simp [Value.oneCell']) (by unfold maxLen; omega) (by omega) (by have := hB.out.size; simp; omega) ?_; intro v' w3 hown3 hgrow3 _; have HO3 := hid hown3; have HG3 := hid hgrow3; clear hown3 hgrow3)
      rw [hzI.out] at HO3
      obtain ⟨n1, n2⟩ := own_next hO.out hB.out HO3.out HG3.out
      have N1 := hid n1; have N2 := hid n2; clear n1 n2 HO3 HG3
      obtain ⟨a3, k3, rfl⟩ := owns_ex N1.out
      go_wp2_with fail
      go_roundw
      case rel => exact ⟨s ++ [z], 0, _, by simp, rfl, by simp, by omega, by simp <;> omega, HN, N1, N2⟩
      case measure => simp [intOf] <;> omega
  ·obtain rfl : s.length = n := by omega
   have hv := hid (hP.out.done HA.out.symm HL.out)
   go_wp2_with (go_at_call 79; refine (r1_trim_at _ _ _ s hP.out.sm (Row.of_owns hO.out)).mono ?_; rintro e w1 ⟨⟨m1, rfl, hv1⟩, rfl⟩)
   go_ret
   exact ⟨⟨_, rfl, by rw [← hv.out]; exact hv1, fun g hg => (hO.out.lt g (by cases ao <;> exact hg)).1⟩, hB.out⟩
theorem r1_Minus (w : World) (v u : Value) (a b : Nat) (ha : IsN .i64 w v a) (hb : IsN .i64 w u b) (hle : b ≤ a) (hla : (limbs a).length ≤ 1000000) :
 Calls Tryz.prog 135 #[v, u] w fun e w' => RetN .i64 (a - b) e w' ∧ Below w.heap.size w w' :=
 (r1_MinusF w v u a b ha hb hle hla).mono fun _ _ h => ⟨h.1.ret, h.2⟩
open Go.Lib (decDigits nDigits)
structure Few (ws : List Nat) : Prop where
 len : ws.length ≤ 64
 dig : ∀ x ∈ ws, nDigits x ≤ 300
 pos : 0 < ws.sum
section
variable {ws : List Nat} {m : Nat} (h : Few ws) (hm : m ≤ 256)
include h
include hm
omit hm
end
open Go.Shelf
theorem shB_ne {a b : Nat} (hb : b ≠ 0) (h1 : nDigits a ≤ 4000) (h2 : nDigits b ≤ 4000) (ha : a ≠ 0) : shB a b ≠ ⟨#[48]⟩ := fun e => by
 rw [← shB_zero b, shB_tx hb h1 h2, shB_tx hb (by rw [nDigits_zero]; omega) h2] at e
 have e' := congrArg vQ e
 rw [vQ_txQ, vQ_txQ] at e'
 have h3 := (Rat.mkRat_eq_iff hb hb).1 e'
 have h4 : ((a * b : Nat) : Int) = 0 := by rw [Int.natCast_mul, h3]; simp
 have hp : 0 < a * b := Nat.mul_pos (by omega) (by omega)
 omega
end Go.Proofs.YtgphopkifomffaaGreatDoor
namespace Go.Proofs.YtgphopkifomffaaGreatDoor
open Go.RowKit
open Go.Lib (decDigits nDigits)
section
variable {g : Int → Nat} {n : Nat} (hg : ∀ v : Int, v < 0 → g v = 0) (hz : zS n g ≤ 2 ^ n)
include hg hz
omit hg hz in
omit hg hz in
end
theorem dy_eq_zero {x m : Nat} (hx : x ≤ 2 ^ m) (h : m ≤ 1000) : dyB x m = ⟨#[48]⟩ ↔ x = 0 :=
 ⟨fun e => Classical.byContradiction fun h0 => shB_ne (pow_ne m) (dy_nd hx h) (dy_nd (Nat.le_refl _) h) h0 e, fun e => e ▸ dy_zero m⟩
theorem zs_pow {g : Int → Nat} {n : Nat} (hz : zS n g ≤ 2 ^ n) (i : Nat) : zS n g ^ i ≤ 2 ^ (n * i) := by
 rw [Nat.pow_mul]
 exact Nat.pow_le_pow_left hz i
def sV (f : Int → Nat) (l : List Int) : Nat := (l.map f).sum
theorem sV_take {f : Int → Nat} {l : List Int} {i : Nat} {v : Int} (h : l[i]? = some v) : sV f (l.take (i + 1)) = sV f (l.take i) + f v := by
 unfold sV
 rw [List.take_add_one, h, Option.toList_some, List.map_append, List.sum_append]; simp
theorem sV_le {f : Int → Nat} {l : List Int} (i : Nat) : sV f (l.take i) ≤ sV f l := by
 have e : sV f l = sV f (l.take i) + sV f (l.drop i) := by
  conv => lhs; rw [← List.take_append_drop i l]
  unfold sV
  rw [List.map_append, List.sum_append]
 omega
theorem sV_perm {f : Int → Nat} {l m : List Int} (h : l.Perm m) : sV f l = sV f m := (h.map f).sum_nat
def Runs (g : Int → Nat) (n : Nat) (l : List Int) : Prop := ∀ f : Int → Nat, (∀ v, g v = 0 → f v = 0) → sV f l = zS n f
section
variable {gA gC : Int → Nat} {n : Nat} {kA kC : List Int} (hA : zS n gA ≤ 2 ^ n) (hC : zS n gC ≤ 2 ^ n) (rA : Runs gA n kA) (rC : Runs gC n kC)
end
theorem dyB_size {x m : Nat} (hx : x ≤ 2 ^ m) (h : m ≤ 1000) : (dyB x m).size ≤ 10000 := by unfold dyB shB; exact outB_size _
def chV (g : Int → Nat) (n j : Nat) : List Int := ((List.range j).map fun (i : Nat) => (i : Int) - n).filter fun v => decide (g v ≠ 0)
theorem chV_succ (g : Int → Nat) (n j : Nat) : chV g n (j + 1) = chV g n j ++ if g ((j : Int) - n) = 0 then [] else [(j : Int) - n] := by
 unfold chV
 rw [List.range_succ, List.map_append, List.filter_append, List.map_singleton]
 by_cases h : g ((j : Int) - n) = 0
 ·simp [h]
 ·simp [h]
theorem chV_mem {g : Int → Nat} {n j : Nat} {v : Int} : v ∈ chV g n j ↔ ∃ i : Nat, i < j ∧ v = (i : Int) - n ∧ g v ≠ 0 := by
 unfold chV
 rw [List.mem_filter, List.mem_map, decide_eq_true_iff]
 constructor
 ·rintro ⟨⟨i, hi, rfl⟩, h⟩
  exact ⟨i, List.mem_range.1 hi, rfl, h⟩
 ·rintro ⟨i, hi, rfl, h⟩
  exact ⟨⟨i, List.mem_range.2 hi, rfl⟩, h⟩
theorem chV_length (g : Int → Nat) (n j : Nat) : (chV g n j).length ≤ j := by
 unfold chV
 refine Nat.le_trans (List.length_filter_le _ _) ?_
 simp
def smV (f : Int → Nat) (l : List Int) : Nat := (l.map f).sum
theorem smV_snoc (f : Int → Nat) (l : List Int) (v : Int) : smV f (l ++ [v]) = smV f l + f v := by simp [smV]
theorem smV_chV {f g : Int → Nat} (hf : ∀ v, g v = 0 → f v = 0) (n : Nat) : ∀ j, smV f (chV g n j) = sumN (fun i => f ((i : Int) - n)) j
 | 0 => rfl
 | j + 1 => by
  rw [chV_succ, sumN, ← smV_chV hf n j]
  split
  ·rename_i h
   rw [List.append_nil, hf _ h, Nat.add_zero]
  ·rw [smV_snoc]
theorem smV_all {f g : Int → Nat} (hf : ∀ v, g v = 0 → f v = 0) (n : Nat) : smV f (chV g n (2 * n + 1)) = zS n f := smV_chV hf n _
def chA (g : Int → Nat) (n : Nat) : List Int := chV g n (2 * n + 1)
theorem chA_g {g : Int → Nat} {n : Nat} {v : Int} (h : v ∈ chA g n) : -(n : Int) ≤ v ∧ v ≤ n ∧ g v ≠ 0 := by
 obtain ⟨i, h1, rfl, h2⟩ := chV_mem.1 h
 exact ⟨by omega, by omega, h2⟩
theorem chA_length (g : Int → Nat) (n : Nat) : (chA g n).length ≤ 2 * n + 1 := chV_length g n _
end Go.Proofs.YtgphopkifomffaaGreatDoor
namespace Go.Proofs
open Go.Shelf
def Tryz.sortMW_ren : Go.Shelf.Ren := ⟨fun | 14 => 65 | 20 => 113 | 21 => 114 | 22 => 115 | 23 => 116 | 24 => 117 | 25 => 118 | 26 => 119 | 27 => 120 | 46 => 174 | 47 => 175 | 48 => 176 | 49 => 177 | 50 => 178 | 15 => 66 | 57 => 220 | 28 => 121 | 29 => 122 | n => n, fun | 24 => 40 | 22 => 25 | 3 => 3 | 25 => 71 | 4 => 4 | 0 => 0 | 46 => 146 | 45 => 145 | 50 => 150 | 66 => 204 | 39 => 107 | 55 => 120 | 70 => 208 | 76 => 250 | 77 => 251 | 53 => 153 | 5 => 5 | 9 => 9 | n => n, fun | n => n⟩
theorem Tryz.sortMW : Go.Proofs.SlLaysF0.n14 Tryz.prog Tryz.sortMW_ren := {
 mixed := by kernel_rfl
 f14 := ⟨Tryz.f65.name, by decide, Tryz.func65.trans (congrArg some (by kernel_rfl))⟩
 f15 := Tryz.func66.trans (congrArg some (by kernel_rfl))
 f20 := ⟨Tryz.f113.name, by decide, Tryz.func113.trans (congrArg some (by kernel_rfl))⟩
 f21 := ⟨Tryz.f114.name, by decide, Tryz.func114.trans (congrArg some (by kernel_rfl))⟩
 f22 := ⟨Tryz.f115.name, by decide, Tryz.func115.trans (congrArg some (by kernel_rfl))⟩
 f23 := ⟨Tryz.f116.name, by decide, Tryz.func116.trans (congrArg some (by kernel_rfl))⟩
 f24 := ⟨Tryz.f117.name, by decide, Tryz.func117.trans (congrArg some (by kernel_rfl))⟩
 f25 := ⟨Tryz.f118.name, by decide, Tryz.func118.trans (congrArg some (by kernel_rfl))⟩
 f26 := ⟨Tryz.f119.name, by decide, Tryz.func119.trans (congrArg some (by kernel_rfl))⟩
 f27 := ⟨Tryz.f120.name, by decide, Tryz.func120.trans (congrArg some (by kernel_rfl))⟩
 f28 := Tryz.func121.trans (congrArg some (by kernel_rfl))
 f29 := Tryz.func122.trans (congrArg some (by kernel_rfl))
 f46 := ⟨Tryz.f174.name, by decide, Tryz.func174.trans (congrArg some (by kernel_rfl))⟩
 f47 := Tryz.func175.trans (congrArg some (by kernel_rfl))
 f48 := Tryz.func176.trans (congrArg some (by kernel_rfl))
 f49 := ⟨Tryz.f177.name, by decide, Tryz.func177.trans (congrArg some (by kernel_rfl))⟩
 f50 := ⟨Tryz.f178.name, by decide, Tryz.func178.trans (congrArg some (by kernel_rfl))⟩
 f57 := ⟨Tryz.f220.name, by decide, Tryz.func220.trans (congrArg some (by kernel_rfl))⟩
 t0 := Tryz.underlying0
 a0 := Tryz.isAgg0
 z0 := Tryz.sizeOf0
 v0 := Tryz.zeroValue0
 t3 := Tryz.underlying3
 a3 := Tryz.isAgg3
 z3 := Tryz.sizeOf3
 v3 := Tryz.zeroValue3
 t4 := Tryz.underlying4
 a4 := Tryz.isAgg4
 z4 := Tryz.sizeOf4
 v4 := Tryz.zeroValue4
 t5 := Tryz.underlying5
 a5 := Tryz.isAgg5
 z5 := Tryz.sizeOf5
 v5 := Tryz.zeroValue5
 t9 := Tryz.underlying9
 a9 := Tryz.isAgg9
 z9 := Tryz.sizeOf9
 v9 := Tryz.zeroValue9
 t22 := Tryz.underlying25
 a22 := Tryz.isAgg25
 z22 := Tryz.sizeOf25
 v22 := Tryz.zeroValue25
 t25 := Tryz.underlying71
 a25 := Tryz.isAgg71
 z25 := Tryz.sizeOf71
 v25 := Tryz.zeroValue71
 t39 := Tryz.underlying107
 a39 := Tryz.isAgg107
 z39 := Tryz.sizeOf107
 v39 := Tryz.zeroValue107
 t45 := Tryz.underlying145
 a45 := Tryz.isAgg145
 z45 := Tryz.sizeOf145
 v45 := Tryz.zeroValue145
 t46 := Tryz.underlying146
 a46 := Tryz.isAgg146
 z46 := Tryz.sizeOf146
 v46 := Tryz.zeroValue146
 t50 := Tryz.underlying150
 a50 := Tryz.isAgg150
 z50 := Tryz.sizeOf150
 v50 := Tryz.zeroValue150
 t53 := Tryz.underlying153
 a53 := Tryz.isAgg153
 z53 := Tryz.sizeOf153
 v53 := Tryz.zeroValue153
 t55 := Tryz.underlying120
 a55 := Tryz.isAgg120
 z55 := Tryz.sizeOf120
 v55 := Tryz.zeroValue120
 t66 := Tryz.underlying204
 a66 := Tryz.isAgg204
 z66 := Tryz.sizeOf204
 v66 := Tryz.zeroValue204
 t70 := Tryz.underlying208
 a70 := Tryz.isAgg208
 z70 := Tryz.sizeOf208
 v70 := Tryz.zeroValue208
 t76 := Tryz.underlying250
 a76 := Tryz.isAgg250
 z76 := Tryz.sizeOf250
 v76 := Tryz.zeroValue250
 t77 := Tryz.underlying251
 a77 := Tryz.isAgg251
 z77 := Tryz.sizeOf251
 v77 := Tryz.zeroValue251 }
def Tryz.lenW_ren : Go.Shelf.Ren := ⟨fun | 125 => 66 | 128 => 121 | 129 => 122 | n => n, fun | 46 => 107 | 3 => 3 | 51 => 153 | 53 => 120 | 4 => 4 | 5 => 5 | 9 => 9 | n => n, fun | n => n⟩
theorem Tryz.lenW : Go.Proofs.Lays.n125 Tryz.prog Tryz.lenW_ren := {
 mixed := by kernel_rfl
 f125 := Tryz.func66.trans (congrArg some (by kernel_rfl))
 f128 := Tryz.func121.trans (congrArg some (by kernel_rfl))
 f129 := Tryz.func122.trans (congrArg some (by kernel_rfl))
 t3 := Tryz.underlying3
 a3 := Tryz.isAgg3
 z3 := Tryz.sizeOf3
 v3 := Tryz.zeroValue3
 t4 := Tryz.underlying4
 a4 := Tryz.isAgg4
 z4 := Tryz.sizeOf4
 v4 := Tryz.zeroValue4
 t5 := Tryz.underlying5
 a5 := Tryz.isAgg5
 z5 := Tryz.sizeOf5
 v5 := Tryz.zeroValue5
 t9 := Tryz.underlying9
 a9 := Tryz.isAgg9
 z9 := Tryz.sizeOf9
 v9 := Tryz.zeroValue9
 t46 := Tryz.underlying107
 a46 := Tryz.isAgg107
 z46 := Tryz.sizeOf107
 v46 := Tryz.zeroValue107
 t51 := Tryz.underlying153
 a51 := Tryz.isAgg153
 z51 := Tryz.sizeOf153
 v51 := Tryz.zeroValue153
 t53 := Tryz.underlying120
 a53 := Tryz.isAgg120
 z53 := Tryz.sizeOf120
 v53 := Tryz.zeroValue120 }
end Go.Proofs
namespace Go.Proofs.YtgphopkifomffaaGreatDoor
open Go.RowKit
open Go.Sort
open Go.Shelf
open Go.Lib
def cmpK (p q : ByteArray × ByteArray) : Int := if keyL p < keyL q then -1 else if keyL q < keyL p then 1 else 0
theorem cmpK_neg (p q : ByteArray × ByteArray) : cmpK p q < 0 ↔ keyL p < keyL q := by
 unfold cmpK
 split
 ·rename_i h; simp [h]
 ·rename_i h
  split <;> simp [h]
def encM (p : ByteArray × ByteArray) : List Value := [.string p.1, .string p.2]
theorem swoM : SWO (ltOf cmpK) where
 irrefl x := by
  simp only [ltOf, decide_eq_false_iff_not, cmpK_neg]
  exact List.lt_irrefl _
 trans x y z h1 h2 := by
  simp only [ltOf, decide_eq_true_eq, cmpK_neg] at *
  exact List.lt_trans h1 h2
 ntrans x y z h1 h2 := by
  simp only [ltOf, decide_eq_false_iff_not, cmpK_neg, List.not_lt] at *
  exact List.le_trans h2 h1
theorem massC_at {L : List (ByteArray × ByteArray)} (i : Nat) : (massC L)[i]? = (L[i / 2]?).map (fun p => if i % 2 = 0 then Value.string p.1 else Value.string p.2) := by
 cases h : L[i / 2]? with
 | none =>
  rw [List.getElem?_eq_none_iff] at h
  rw [Option.map_none, List.getElem?_eq_none_iff, massC_length]
  omega
 | some p =>
  obtain ⟨h1, h2⟩ := massC_get h
  rw [Option.map_some]
  by_cases hm : i % 2 = 0
  ·rw [if_pos hm, show i = 2 * (i / 2) by omega]; exact h1
  ·rw [if_neg hm, show i = 2 * (i / 2) + 1 by omega]; exact h2
theorem flatK_mass (d : Array (ByteArray × ByteArray)) : (flatK encM 2 d).toList = massC d.toList := by
 apply List.ext_getElem?
 intro i
 rw [massC_at]
 by_cases hi : i < d.size * 2
 ·have e1 := get_flatK encM 2 d i (by omega)
  rw [getElem!_pos _ _ (by simp; omega)] at e1
  have hi2 : i / 2 < d.size := by omega
  rw [Array.getElem?_toList, Array.getElem?_eq_getElem (by simp; omega), e1, Array.getElem?_toList, Array.getElem?_eq_getElem hi2, Option.map_some, getElem!_pos d (i / 2) hi2]
  by_cases hm : i % 2 = 0
  ·rw [if_pos hm, hm]; rfl
  ·rw [if_neg hm, show i % 2 = 1 by omega]; rfl
 ·rw [List.getElem?_eq_none (by simp; omega), Array.getElem?_toList, Array.getElem?_eq_none (by omega)]; rfl
theorem heap_sortedK {w : World} {g n : Nat} {os : Array Obj} {cur : Array Value} {e : TypeId} {fr : Nat × Nat} (d : Array Value) (hb : w.heap[g]? = some (.cells cur e fr)) :
 (grow (putRow id (Sort.ahead w n) g 0 d) os).heap[g]? = some (.cells (putCells id 0 d cur) e fr) := by
 have hg : g < w.heap.size := (Array.getElem?_eq_some_iff.1 hb).1
 rw [Go.Sort.heap_grow_old _ _ (by simpa using hg)]
 simp [putRow, mapBlock, Sort.ahead, Array.getElem?_modify, hb, onCells]
theorem below_sortedK {w : World} {g n base : Nat} {os : Array Obj} (d : Array Value) (hb : base ≤ g) (hw : base ≤ w.heap.size) : Below base w (grow (putRow id (Sort.ahead w n) g 0 d) os) := by
 refine ⟨rfl, rfl, rfl, by simp, fun k hk => ?_⟩
 rw [Go.Sort.heap_grow_old _ _ (by simp; omega)]
 have : g ≠ k := by omega
 simp [putRow, mapBlock, Sort.ahead, Array.getElem?_modify, this]
theorem take_putCellsK (cur F : Array Value) (h : F.size ≤ cur.size) : (putCells id 0 F cur).toList.take F.size = F.toList := by
 apply List.ext_getElem?
 intro j
 by_cases hj : j < F.size
 ·rw [List.getElem?_take_of_lt hj, Array.getElem?_toList]
  simp [putCells, hj, show j < cur.size by omega]
 ·rw [List.getElem?_take_eq_none (by omega), List.getElem?_eq_none (by simp; omega)]
theorem permIn_all {d d' : Array (ByteArray × ByteArray)} (h : PermIn 0 d.size d d') : d'.size = d.size ∧ d'.toList.Perm d.toList := by
 obtain ⟨h1, _, h3⟩ := h
 refine ⟨h1, ?_⟩
 have e1 : d'.extract 0 d.size = d' := by rw [← h1]; simp
 have e2 : d.extract 0 d.size = d := by simp
 rwa [e1, e2] at h3
theorem sortedIn_all {d' : Array (ByteArray × ByteArray)} (h : SortedIn (ltOf cmpK) 0 d'.size d') : d'.toList.Pairwise (fun p q => leB (keyL p) (keyL q) = true) := by
 rw [List.pairwise_iff_getElem]
 intro i j hi hj hij
 have := h i j (Nat.zero_le _) hij (by simpa using hj)
 simp only [ltOf, decide_eq_false_iff_not, cmpK_neg, List.not_lt] at this
 rw [getElem!_pos _ _ (by simpa using hi), getElem!_pos _ _ (by simpa using hj)] at this
 simp only [leB, decide_eq_true_eq]
 simpa using this
theorem sorted_is {L M : List (ByteArray × ByteArray)} (hp : L.Perm M) (hs : L.Pairwise (fun p q => leB (keyL p) (keyL q) = true)) (nd : (M.map keyL).Nodup) : L = sortM M := by
 have nd2 : (L.map keyL).Nodup := ((hp.map keyL).nodup_iff).2 nd
 rw [← sortM_same nd2 nd (fun p => hp.mem_iff)]
 exact (List.mergeSort_of_pairwise hs).symm
theorem s_SortM (F : Nat) (g cap base : Nat) (d : Array (ByteArray × ByteArray)) (w : World) (cur : Array Value) (hb : base ≤ g) (hg : w.heap[g]? = some (.cells cur 40 (0, 0))) (h1 : d.size ≤ cap) (h2 : cap ≤ maxLen) (h3 : cur.size = cap * 2) (h4 : cur.toList.take (d.size * 2) = massC d.toList) (hs : d.size ≤ 1000) (hnd : (d.toList.map keyL).Nodup)
 (eg : ∀ args w, (callFunc F args).run Tryz.prog w = .ok (.enter F args) w) (hF : ∀ (x y : ByteArray × ByteArray) (W : World), Calls Tryz.prog F #[.agg #[.string x.1, .string x.2], .agg #[.string y.1, .string y.2]] W fun e w' => e = .returned (.int .i64 (cmpK x y)) ∧ ∃ n os', w' = grow (W.drewN n) os') :
 Calls Tryz.prog 32 #[.slice (some ⟨g, 0, none⟩) d.size cap, .func (.func F) #[] #[]] w fun e w' => e = .returned (.tuple #[]) ∧ w'.ownsRow base 40 2 (.slice (some ⟨g, 0, none⟩) d.size cap) d.size (massC (sortM d.toList)) ∧ Below base w w' := by
 have hblk : g < w.heap.size := (Array.getElem?_eq_some_iff.1 hg).1
 have hH : HoldsK encM 2 w g 0 d := by
  intro j hj
  have hj' : j < d.size * 2 := by simpa using hj
  refine ⟨?_, by simp [World.frozen?, hg]⟩
  have e : (cur.toList.take (d.size * 2))[j]? = (flatK encM 2 d).toList[j]? := by rw [h4, flatK_mass]
  rw [List.getElem?_take_of_lt hj'] at e
  simp only [World.cell?, hg, Nat.zero_add]
  simp only [Option.isSome_none, Bool.false_eq_true, if_false]
  rw [← Array.getElem?_toList, e, Array.getElem?_toList, Array.getElem?_eq_getElem hj, getElem!_pos (flatK encM 2 d) j hj]
  rfl
 have hcmp : CmpLays Tryz.prog F #[] encM 2 cmpK g 0 d.size w := fun _ _ _ _ x y => hF x y _
 have hd : ∀ x : ByteArray × ByteArray, (encM x).length = 2 := fun _ => rfl
 have h1c : ∀ x : ByteArray × ByteArray, ∀ v ∈ encM x, v.oneCell' = true := fun x v hv => by simp [encM] at hv; rcases hv with rfl | rfl <;> rfl
 have hlim : Lib.bitLen d.size < 4611686018427387904 := Nat.lt_of_le_of_lt (Lib.bitLen_le d.size 62 (by omega) (by omega)) (by omega)
 have hpd := AnyQ.pdqsortCmpFunc_all Tryz.sortMW 2 Tryz.isAgg40 Tryz.sizeOf40 encM cmpK F #[] swoM g 0 cap d w eg hcmp ⟨hd, h1c, hH, hblk⟩ (d.size + 1) 0 d.size (Lib.bitLen d.size) d w (by omega) rfl (SWK.start hH) (Nat.zero_le _) (Nat.le_refl _) (by omega) hlim (Or.inl rfl)
 change Calls Tryz.prog 65 _ _ _ at hpd
 have hbl : Calls Tryz.prog 66 #[.int .u64 (d.size : Int)] w fun e w' => e = .returned (.int .i64 (Lib.bitLen d.size : Nat)) ∧ w' = w := by
  have h := Any.bits_Len Tryz.lenW (d.size : Int) w (by omega) (by omega)
  rwa [Int.toNat_natCast] at h
 have wr : IntKind.u64.wrap (d.size : Int) = d.size := by simp [IntKind.wrap, IntKind.bits, IntKind.signed]; omega
 have hz := pdq_sorts (ltOf cmpK) swoM d 0 d.size (Lib.bitLen d.size) true true (Nat.zero_le _) (Nat.le_refl _) (Or.inl rfl)
 have P := permIn_all hz.1
 have hz2 := hz.2
 generalize pdq (ltOf cmpK) d 0 d.size (Lib.bitLen d.size) true true = d' at *
 have S := sortedIn_all (P.1 ▸ hz2)
 have hd' : d'.toList = sortM d.toList := sorted_is P.2 S hnd
 clear hH hcmp hz hz2 hF
 have h2h := hid h2; clear h2
 have h4h := hid h4; clear h4
 have HND := hid hnd; clear hnd
 go_enter Tryz.func32, Tryz.ntmps32
 go_wp2_with fail
 refine hbl.mono ?_; rintro e w' ⟨rfl, rfl⟩
 go_wp2_with fail
 refine hpd.mono ?_; rintro e w' ⟨rfl, n, os, rfl⟩
 go_wp2_with fail
 go_end0
 refine ⟨rfl, ⟨?_, .inr ⟨g, cap, _, rfl, hb, heap_sortedK _ hg, h1, h2h.out, by simp [putCells, h3], ?_⟩⟩, below_sortedK _ hb (by omega)⟩
 ·rw [massC_length, ← hd']; simp [P.1]
 ·rw [← hd', ← flatK_mass]
  have := take_putCellsK cur (flatK encM 2 d') (by rw [size_flatK, P.1, h3]; omega)
  rwa [size_flatK, P.1] at this
end Go.Proofs.YtgphopkifomffaaGreatDoor
namespace Go.Proofs.YtgphopkifomffaaGreatDoor
open Go.RowKit
open Go.Sort
open Go.Shelf
open Go.Maps
open Go.Lib (decDigits nDigits)
theorem s_ItoaZ (w : World) (v : Int) (h1 : -100000 ≤ v) (h2 : v ≤ 100000) (hL : Lay w) :
 Calls Tryz.prog 31 #[.int .i64 v] w fun e w' => e = .returned (.string (zB v)) ∧ Below w.heap.size w w' := by
 refine (Tryz.strconv_Itoa v (by omega) (by omega) w hL.tab).mono ?_
 rintro e w' ⟨rfl, k, os, rfl⟩
 exact ⟨rfl, below_grow w k os⟩
theorem sameKey_int (v x : Int) : (Lit.int .i64 v).sameKey (.int .i64 x) = decide (v = x) := by
 by_cases h : v = x
 ·subst h
  rw [WideAt.sameKey_self (show WideAt.IsKeyLit (.int .i64 v) from trivial)]; simp
 ·rw [Maps.sameKey_ne (fun e => h (by injection e))]; simp [h]
theorem less_bytes (x z : ByteArray) : Op.bytesLess x.toList z.toList = decide (x.data.toList < z.data.toList) := by
 rw [bytesLess_eq, Lib.toList_data, Lib.toList_data]
theorem s_isNaN (w : World) (x : ByteArray) : Calls Tryz.prog 67 #[.string x] w fun e w' => e = .returned (.bool false) ∧ w = w' := by
 have q1 : (x.toList != x.toList) = false := by simp
 have q2 : (x.toList == x.toList) = true := by simp
 go_enter Tryz.func67, Tryz.ntmps67
 go_wp2_with fail
 go_ret
 exact ⟨rfl, rfl⟩
theorem s_Compare (w : World) (x z : ByteArray) : Calls Tryz.prog 34 #[.string x, .string z] w fun e w' => e = .returned (.int .i64 (if x.data.toList < z.data.toList then -1 else if z.data.toList < x.data.toList then 1 else 0)) ∧ w = w' := by
 have h1 := less_bytes x z
 have h2 := less_bytes z x
 have N1 := fun V => hid (s_isNaN V x)
 have N2 := fun V => hid (s_isNaN V z)
 by_cases c1 : x.data.toList < z.data.toList
 ·rw [if_pos c1]
  rw [decide_eq_true c1] at h1
  clear h2 c1
  go_enter Tryz.func34, Tryz.ntmps34
  go_wp2_with fail
  refine (N1 _).out.mono ?_; rintro e w1 ⟨rfl, rfl⟩
  go_wp2_with fail
  refine (N2 _).out.mono ?_; rintro e w1 ⟨rfl, rfl⟩
  go_wp2_with fail
  go_ret
  exact ⟨rfl, rfl⟩
 ·rw [if_neg c1]
  rw [decide_eq_false c1] at h1
  by_cases c2 : z.data.toList < x.data.toList
  ·rw [if_pos c2]
   rw [decide_eq_true c2] at h2
   have h3 : (x.toList == z.toList) = false := by
    rw [beq_eq_false_iff_ne]
    intro e
    rw [Lib.toList_data, Lib.toList_data] at e
    rw [e] at c2
    exact List.lt_irrefl _ c2
   clear c1 c2
   go_enter Tryz.func34, Tryz.ntmps34
   go_wp2_with fail
   refine (N1 _).out.mono ?_; rintro e w1 ⟨rfl, rfl⟩
   go_wp2_with fail
   refine (N2 _).out.mono ?_; rintro e w1 ⟨rfl, rfl⟩
   go_wp2_with fail
   go_ret
   exact ⟨rfl, rfl⟩
  ·rw [if_neg c2]
   rw [decide_eq_false c2] at h2
   have h3 : (x.toList == z.toList) = true := by
    rw [beq_iff_eq, Lib.toList_data, Lib.toList_data]
    exact List.le_antisymm (List.not_lt.1 c2) (List.not_lt.1 c1)
   clear c1 c2
   go_enter Tryz.func34, Tryz.ntmps34
   go_wp2_with fail
   refine (N1 _).out.mono ?_; rintro e w1 ⟨rfl, rfl⟩
   go_wp2_with fail
   refine (N2 _).out.mono ?_; rintro e w1 ⟨rfl, rfl⟩
   go_wp2_with fail
   go_ret
   exact ⟨rfl, rfl⟩
theorem g_order (p q : ByteArray × ByteArray) (w : World) : Calls Tryz.prog 100 #[.agg #[.string p.1, .string p.2], .agg #[.string q.1, .string q.2]] w fun e w' => e = .returned (.int .i64 (cmpK p q)) ∧ ∃ n os', w' = grow (w.drewN n) os' := by
 obtain ⟨p1, p2⟩ := p
 obtain ⟨q1, q2⟩ := q
 dsimp only
 have HC := fun V => hid (s_Compare V p1 q1)
 unfold cmpK keyL
 dsimp only
 obtain ⟨r, hr⟩ : ∃ r : Int, (if p1.data.toList < q1.data.toList then (-1 : Int) else if q1.data.toList < p1.data.toList then 1 else 0) = r := ⟨_, rfl⟩
 rw [hr] at HC ⊢
 clear hr
 go_enter Tryz.func100, Tryz.ntmps100
 go_wp2_with fail
 refine (HC _).out.mono ?_; rintro e w1 ⟨rfl, rfl⟩
 go_wp2_with fail
 go_ret
 exact ⟨rfl, 0, _, by rw [alloc_eq_grow, alloc_eq_grow, grow_grow]; rfl⟩
end Go.Proofs.YtgphopkifomffaaGreatDoor
namespace Go.Proofs.YtgphopkifomffaaGreatDoor
open Go.RowKit
open Go.Maps
open Go.Lib (decDigits nDigits)
structure ReadsI {H : Type} (D : DataW H) (c : Int → Nat) : Prop where
 map : IsMap D
 has : ∀ v : Int, Maps.has D (.int .i64 v) = decide (c v ≠ 0)
 look : ∀ v : Int, c v ≠ 0 → ∀ z, D.atKey (.int .i64 v) z = .lit (.string (numB (c v)).data.toList)
theorem ReadsI.nil {H : Type} : ReadsI (.map [] : DataW H) (fun _ => 0) :=
 ⟨isMap_empty, fun v => by simp [Maps.has_eq], fun v h => absurd rfl h⟩
theorem ReadsI.put {H : Type} {D : DataW H} {c : Int → Nat} (h : ReadsI D c) (v : Int) {x : Nat} (hx : 0 < x) :
 ReadsI (D.put (.int .i64 v) (.lit (.string (numB (c v + x)).data.toList))) (addM c v x) := by
 refine ⟨h.map.put _ _, fun y => ?_, fun y hy z => ?_⟩
 ·by_cases e : y = v
  ·subst e
   rw [has_put_same h.map (show WideAt.IsKeyLit (.int .i64 y) from trivial)]
   unfold addM
   rw [if_pos rfl]
   simp; omega
  ·rw [has_put_other (fun e' => e (by injection e')), h.has]
   unfold addM
   rw [if_neg e]
 ·by_cases e : y = v
  ·subst e
   rw [atKey_put_same h.map (show WideAt.IsKeyLit (.int .i64 y) from trivial)]
   unfold addM
   rw [if_pos rfl]
  ·unfold addM at hy ⊢
   rw [if_neg e] at hy ⊢
   rw [atKey_put_other (fun e' => e (by injection e'))]
   exact h.look y hy z
def cellB (x : Nat) : ByteArray := if x = 0 then ⟨#[]⟩ else numB x
theorem look_i {H : Type} {w : World} {B nn : Nat} {D : DataW H} {c : Int → Nat} (hown : w.ownsMap Tryz.prog 3 (plainElem Tryz.prog 22) B nn D) (hR : ReadsI D c) {v : Int} (hw : (Lit.int .i64 v).wf = true) :
 (Instr.lookup 137 (.map (some B)) (.int .i64 v) false).run Tryz.prog w = .ok (.string (cellB (c v))) w := by
 obtain ⟨x, ps, h1, h2⟩ := hown.lookup (int_keyed Tryz.underlying3) Tryz.underlying137 (zero_num w) (plainElem_string Tryz.underlying22 (s := ⟨#[]⟩) (Nat.zero_le _)) (keyOf_int_mk Tryz.underlying3 hw)
 rw [h1]
 unfold cellB
 by_cases h0 : c v = 0
 ·rw [if_pos h0]
  rw [atKey_of_not_has (by rw [hR.has, h0]; rfl)] at h2
  obtain ⟨s, rfl, h3, -⟩ := plainElem_string_inv Tryz.underlying22 h2
  simp only [Prod.mk.injEq, DataW.lit.injEq, Lit.string.injEq] at h3
  have e : s = (⟨#[]⟩ : ByteArray) := ba_ext (by simpa using h3.1.symm)
  rw [e]
 ·rw [if_neg h0]
  rw [hR.look v h0] at h2
  obtain ⟨s, rfl, h3, -⟩ := plainElem_string_inv Tryz.underlying22 h2
  simp only [Prod.mk.injEq, DataW.lit.injEq, Lit.string.injEq] at h3
  rw [ba_ext h3.1]
end Go.Proofs.YtgphopkifomffaaGreatDoor
namespace Go.Proofs.YtgphopkifomffaaGreatDoor
open Go.RowKit
open Go.Shelf
open Go.Lib (decDigits nDigits)
def rowV (n g : Nat) : Value := .slice (some ⟨g, 0, none⟩) (n + 1) (n + 1)
structure TabR (W : World) (gt n : Nat) (f : Nat → List Nat) : Prop where
 len : ∀ i, i ≤ n → (f i).length = n + 1
 ex : ∃ g c, n + 1 ≤ c ∧ c ≤ 9223372036854775807 ∧ W.cell? ⟨gt, 0, none⟩ = some (.slice (some ⟨g, 0, none⟩) (n + 1) c) ∧ W.cell? ⟨gt, 1, none⟩ = some (.string ⟨#[48]⟩) ∧ ∀ i, i ≤ n → ∃ gr, W.cell? ⟨g, i, none⟩ = some (rowV n gr) ∧ NRowT W gr (f i)
theorem TabR.call {W W' : World} {gt n : Nat} {f : Nat → List Nat} (h : TabR W gt n f) (hb : Below W.heap.size W W') : TabR W' gt n f := by
 obtain ⟨h0, g, c, h1, h2, h3, h4, h5⟩ := h
 refine ⟨h0, g, c, h1, h2, (hb.cell (cell_lt h3)).trans h3, (hb.cell (cell_lt h4)).trans h4, fun i hi => ?_⟩
 obtain ⟨gr, k1, k2⟩ := h5 i hi
 exact ⟨gr, (hb.cell (cell_lt k1)).trans k1, k2.call hb⟩
theorem tb_at (w : World) (gt n i k : Nat) (f : Nat → List Nat) (h : TabR w gt n f) (hi : i ≤ n) (hk : k ≤ n) (hn : n ≤ 100000) :
 Calls Tryz.prog 146 #[.pointer (some ⟨gt, 0, none⟩), .int .i64 (i : Nat), .int .i64 (k : Nat)] w fun e w' => e = .returned (.string (numB ((f i).getD k 0))) ∧ w = w' := by
 obtain ⟨h0, g, c, h1, h2, r0, r1, h5⟩ := h
 obtain ⟨gr, r2, k2⟩ := h5 i hi
 have r3 := k2.cell (i := k) (by rw [h0 i hi]; omega)
 unfold rowV at r2
 obtain ⟨X, hX⟩ : ∃ s, numB ((f i).getD k 0) = s := ⟨_, rfl⟩
 rw [hX] at r3 ⊢
 have b1 : (0 : Int) ≤ (i : Int) := by omega
 have b2 : (i : Int) < ((n + 1 : Nat) : Int) := by omega
 have b3 : (0 : Int) ≤ (k : Int) := by omega
 have b4 : (k : Int) < ((n + 1 : Nat) : Int) := by omega
 obtain ⟨m, hm⟩ : ∃ m, n + 1 = m := ⟨_, rfl⟩
 rw [hm] at r0 r2 b2 b4 h1
 have t1 : decide ((i : Int) < 0) = false := by simp
 have t2 : decide (m ≤ i) = false := by simp; omega
 have t3 : decide ((k : Int) < 0) = false := by simp
 have t4 : decide (m ≤ k) = false := by simp; omega
 clear h0 h5 k2 hX hi hk hn hm
 go_enter Tryz.func146, Tryz.ntmps146
 go_wp2_with fail
 go_ret
 exact ⟨rfl, rfl⟩
structure TabO (W : World) (H gt : Nat) (rv : Value) (gs : List Nat) (n r : Nat) (f : Nat → List Nat) : Prop where
 blk : Blk W gt #[rv, .string ⟨#[48]⟩] 177
 own : W.ownsRow H 168 1 rv gs.length (gs.map (rowV n))
 rows : ∀ i g, i < r → gs[i]? = some g → NRowT W g (f i)
 ne : rv.ownBlock ≠ some gt
 sep : ∀ i g, i < r → gs[i]? = some g → rv.ownBlock ≠ some g
 gne : ∀ i g, i < r → gs[i]? = some g → g ≠ gt
theorem NRowT.lt' {w : World} {g : Nat} {l : List Nat} (h : NRowT w g l) : g < w.heap.size := Blk.lt h
theorem owns_set {W : World} {H : Nat} {e : TypeId} {rv : Value} {n : Nat} {xs : List Value} (h : W.ownsRow H e 1 rv n xs) {a : Addr} (h2 : rv.ownBlock ≠ some a.block) (v : Value) : (W.setCell a v).ownsRow H e 1 rv n xs := by
 refine ⟨h.1, ?_⟩
 rcases h.2 with h0 | ⟨g, cap, cur, rfl, k1, k2, k3⟩
 ·exact .inl h0
 ·refine .inr ⟨g, cap, cur, rfl, k1, ?_, k3⟩
  have hg : g ≠ a.block := fun e => h2 (by rw [← e]; rfl)
  rw [← k2]
  unfold World.setCell
  simp [Array.getElem?_modify, Ne.symm hg]
theorem TabO.call {W W' : World} {H gt : Nat} {rv : Value} {gs : List Nat} {n r : Nat} {f : Nat → List Nat} (h : TabO W H gt rv gs n r f) (hb : Below W.heap.size W W') : TabO W' H gt rv gs n r f :=
 ⟨h.blk.call hb, owns_call h.own hb, fun i g hi hg => (h.rows i g hi hg).call hb, h.ne, h.sep, h.gne⟩
theorem TabO.other {W : World} {H gt : Nat} {rv : Value} {gs : List Nat} {n r : Nat} {f : Nat → List Nat} (h : TabO W H gt rv gs n r f) {a : Addr} (h1 : a.block ≠ gt) (h2 : rv.ownBlock ≠ some a.block) (h3 : ∀ i g, i < r → gs[i]? = some g → a.block ≠ g) (v : Value) : TabO (W.setCell a v) H gt rv gs n r f := by
 exact ⟨h.blk.other h1 v, owns_set h.own h2 v, fun i g hi hg => (h.rows i g hi hg).other (h3 i g hi hg) v, h.ne, h.sep, h.gne⟩
structure KpR (gt : Nat) (rb : Option Nat) (W W' : World) : Prop where
 os : W'.os = W.os
 tape : W'.tape = W.tape
 output : W'.output = W.output
 size : W.heap.size ≤ W'.heap.size
 block : ∀ i, i < W.heap.size → i ≠ gt → some i ≠ rb → W'.heap[i]? = W.heap[i]?
theorem TabO.drew {W : World} {H gt : Nat} {rv : Value} {gs : List Nat} {n r : Nat} {f : Nat → List Nat} (h : TabO W H gt rv gs n r f) : TabO W.drew H gt rv gs n r f := ⟨h.blk, h.own, h.rows, h.ne, h.sep, h.gne⟩
theorem KpR.drew {gt : Nat} {rb : Option Nat} {W W' : World} (h : KpR gt rb W W') : KpR gt rb W W'.drew := ⟨h.os, h.tape, h.output, h.size, h.block⟩
theorem info_nums : (Tryz.prog.info? 168).map (fun i => (i.zero, i.size, i.bytes)) = some (some (.slice none 0 0), 1, 24) := by kernel_rfl
theorem tb_row (w : World) (H gt : Nat) (rv : Value) (gs : List Nat) (n r : Nat) (f : Nat → List Nat) (h : TabO w H gt rv gs n r f) (hr : r ≤ gs.length) (hgs : gs.length ≤ 1000) (hn : n ≤ 1000) (hH : H ≤ w.heap.size) :
 Calls Tryz.prog 202 #[.pointer (some ⟨gt, 0, none⟩), .int .i64 ((n + 1 : Nat) : Int)] w fun e w' => ∃ g rv', e = .returned (rowV n g) ∧ w.heap.size ≤ g ∧ NRowT w' g (List.replicate (n + 1) 0) ∧ TabO w' H gt rv' (gs ++ [g]) n r f ∧ rv'.ownBlock ≠ some g ∧ (rv'.ownBlock = rv.ownBlock ∨ ∃ b, rv'.ownBlock = some b ∧ w.heap.size ≤ b) ∧ KpR gt rv.ownBlock w w' := by
 obtain ⟨i0, hi, hz0, hz1, hz2⟩ := info_parts info_nums
 have HR := fun V g h => hid (s_Repeat V g (n + 1) ⟨#[48]⟩ (by omega) (by omega) h)
 have hgt : gt < w.heap.size := h.blk.lt
 have r0 := h.blk.cell 0
 have r1 := h.blk.cell 1
 simp at r0 r1
 have T0 := hid h
 have HGT := hid hgt; have HHS := hid hH; have HGS := hid hgs; have HRL := hid hr
 obtain ⟨ar, cr, hrv⟩ := owns_ex h.own
 obtain ⟨L, hL⟩ : ∃ L, gs.length = L := ⟨_, rfl⟩
 have HLL := hid hL
 obtain ⟨m, hm⟩ : ∃ m, n + 1 = m := ⟨_, rfl⟩
 have HM := hid hm
 have KK : Hid (∀ W, Below w.heap.size w W → W.cell? ⟨gt, 0, none⟩ = some rv ∧ W.cell? ⟨gt, 1, none⟩ = some (.string ⟨#[48]⟩)) := fun W hW => ⟨(hW.cell (cell_lt r0)).trans r0, (hW.cell (cell_lt r1)).trans r1⟩
 rw [hm] at HR ⊢
 have HRV := hid hrv
 clear h hgt hH hgs hr hL hm hrv hn
 go_enter Tryz.func202, Tryz.ntmps202
 go_wp2_with fail
 refine held_lasts 14 3 [0, 1, 2, 3, 4, 5, 6, 7, 8, 10] 4 (fun W' => W'.cell? ⟨gt, 0, none⟩ = some rv ∧ W'.cell? ⟨gt, 1, none⟩ = some (.string ⟨#[48]⟩)) (by kernel_rfl) rfl (by kernel_rfl) (by kernel_rfl) (by kernel_rfl) (by kernel_rfl) (KK.out _ (Below.refl _ _).drew) ?_
 iterate 10
  refine ⟨_, rfl, ?_⟩
  apply Exists.intro
  refine ⟨.inl ⟨by rfl, ?_⟩, ?_⟩
  ·(intro W' hW'; obtain ⟨q1, q2⟩ := hW'; go_simp; try (with_reducible rfl))
  (dsimp only [Act.put]; try simp only [List.setIfInBounds_toArray, List.set_cons_zero, List.set_cons_succ])
 refine held_one (i := 9) (by kernel_rfl) (by rfl) (by rfl) ?_
 go_wp2_with fail
 have A1 := hid (show Below w.heap.size w (w.alloc (.cells #[.string ⟨#[48]⟩] 22)).drew from ((Below.refl _ _).alloc (Nat.le_refl _) _).drew)
 have C1 : (w.alloc (.cells #[.string ⟨#[48]⟩] 22)).drew.cell? ⟨w.heap.size, 0, none⟩ = some (.string ⟨#[48]⟩) := (Blk.new w #[.string ⟨#[48]⟩] 22).cell 0
 refine ⟨KK.out _ A1.out, ?_⟩
 refine held_one (i := 11) (by kernel_rfl) (by rfl) (by rfl) ?_
 go_wp2_with fail
 refine (HR _ _ C1).out.mono ?_; rintro e w2 ⟨rfl, hg, hb⟩
 obtain ⟨g, hgg⟩ : ∃ g, (w.alloc (.cells #[.string ⟨#[48]⟩] 22)).drew.heap.size = g := ⟨_, rfl⟩
 have B2 := hid (bnext A1.out hb)
 rw [hgg] at hg ⊢
 have HG : Hid (w.heap.size < g) := by rw [← hgg]; show _ < _; simp
 have R2 := hid (NRowT.zeros hg)
 have L2 := hid (show g < w2.heap.size from hg.lt)
 clear hg hb hgg C1
 go_wp2_with fail
 refine ⟨KK.out _ B2.out, ?_⟩
 refine held_one (i := 12) (by kernel_rfl) (by rfl) (by rfl) ?_
 go_wp2_with fail
 have A3 := hid (show Below w.heap.size w (w2.alloc (.cells #[.slice (some ⟨g, 0, none⟩) m m] 168)) from B2.out.alloc B2.out.size _)
 refine ⟨KK.out _ A3.out, ?_⟩
 refine held_one (i := 13) (by kernel_rfl) (by rfl) (by rfl) ?_
 have O3 := hid (((T0.out.call B2.out).own).alloc (.cells #[.slice (some ⟨g, 0, none⟩) m m] 168))
 refine wpList_append_own_at _ rfl _ _ 175 rfl H 168 i0 (.slice none 0 0) 1 24 Tryz.underlying175 hi hz0 hz1 hz2 rfl (by decide) rv gs.length (gs.map (rowV n)) rfl O3.out ⟨w2.heap.size, 0, none⟩ 1 1 [.slice (some ⟨g, 0, none⟩) m m] rfl rfl (cell_one_new w2 (.slice (some ⟨g, 0, none⟩) m m) 168) (by simp [Value.oneCell']) (by have := HGS.out; unfold maxLen; omega) (by have := HGS.out; omega) (by have := HHS.out; have := B2.out.size; simp; omega) ?_
 intro rv' w3 hown3 hgrow3 _ hat3
 have hat4 : rv'.ownBlock = rv.ownBlock ∨ rv'.ownBlock = some (w2.heap.size + 1) := by simpa using hat3
 have OW := hid hown3; have GR := hid hgrow3; have AT := hid hat4
 clear hown3 hgrow3 hat3 hat4
 have c30 : w3.cell? ⟨gt, 0, none⟩ = some rv := by
  have := GR.out.cell (KK.out _ A3.out).1 (fun e => T0.out.ne e.symm)
  exact this
 have c31 : w3.cell? ⟨gt, 1, none⟩ = some (.string ⟨#[48]⟩) := GR.out.cell (KK.out _ A3.out).2 (fun e => T0.out.ne e.symm)
 have X3 : Hid (Blk w3 gt #[rv, .string ⟨#[48]⟩] 177) := ((T0.out.blk.call B2.out).alloc _).grown GR.out (fun e => T0.out.ne e)
 go_wp2_with fail
 refine ⟨⟨c30, c31⟩, ?_⟩
 refine wpAnyH_done (by kernel_rfl) ?_ _
 simp only [Only, ThenL, List.drop_succ_cons, List.drop_zero]
 have f3 := X3.out.free 0
 have NE3 : Hid (rv'.ownBlock ≠ some gt) := by
  rcases AT.out with e | e
  ·show rv'.ownBlock ≠ some gt
   rw [e]; exact T0.out.ne
  ·show rv'.ownBlock ≠ some gt
   rw [e]; intro hh; have := Option.some.inj hh; have := HGT.out; have := B2.out.size; omega
 have NEG : Hid (rv'.ownBlock ≠ some g) := by
  rcases AT.out with e | e
  ·show rv'.ownBlock ≠ some g
   rw [e]; intro hh; have := (T0.out.own.lt g hh).2; have := HG.out; omega
  ·show rv'.ownBlock ≠ some g
   rw [e]; intro hh; have := Option.some.inj hh; have := L2.out; omega
 have AT2 : Hid (rv'.ownBlock = rv.ownBlock ∨ ∃ b, rv'.ownBlock = some b ∧ w.heap.size ≤ b) := AT.out.imp id fun e => ⟨_, e, Nat.le_succ_of_le B2.out.size⟩
 have KP : Hid (KpR gt rv.ownBlock w w3) := ⟨GR.out.os.trans A3.out.os, GR.out.tape.trans A3.out.tape, GR.out.output.trans A3.out.output, Nat.le_trans A3.out.size GR.out.size, fun i hi _ h2 => (GR.out.block i (by have := A3.out.size; omega) h2).trans (A3.out.block i hi)⟩
 have N3 : Hid (NRowT w3 g (List.replicate m 0)) := Blk.grown (Blk.alloc R2.out _) GR.out (fun e => by have := (T0.out.own.lt g e).2; have := HG.out; omega)
 have RO : Hid (∀ i g', i < r → gs[i]? = some g' → NRowT w3 g' (f i)) := fun i g' hi2 hg' => Blk.grown (Blk.alloc ((T0.out.rows i g' hi2 hg').call B2.out) _) GR.out (T0.out.sep i g' hi2 hg')
 have GSR : Hid (∀ i g', i < r → gs[i]? = some g' → g' ≠ gt) := fun i g' hi2 hg' => T0.out.gne i g' hi2 hg'
 obtain ⟨gr, cap, rfl⟩ := ownsRow_succ OW.out
 have HGR : Hid (gr ≠ gt) := fun e => NE3.out (by rw [e]; rfl)
 go_wp2_with fail
 try simp only [Only]
 obtain ⟨w4, hw4⟩ : ∃ W, w3.setCell ⟨gt, 0, none⟩ (.slice (some ⟨gr, 0, none⟩) (gs.length + 1) cap) = W := ⟨_, rfl⟩
 have T4 : Hid (TabO w4 H gt (.slice (some ⟨gr, 0, none⟩) (gs.length + 1) cap) (gs ++ [g]) n r f) := by
  refine ⟨?_, ?_, fun i g' hi2 hg' => ?_, NE3.out, ?_, ?_⟩
  ·rw [← hw4]; exact X3.out.set 0 _
  ·rw [← hw4, List.length_append, List.map_append]
   have hl : (gs.map (rowV n) ++ [Value.slice (some ⟨g, 0, none⟩) m m]) = gs.map (rowV n) ++ [g].map (rowV n) := by rw [← HM.out]; rfl
   rw [← hl]
   exact owns_set OW.out (fun e => HGR.out (by simpa [Value.ownBlock] using e)) _
  ·have hlt : i < gs.length := Nat.lt_of_lt_of_le hi2 HRL.out
   rw [List.getElem?_append_left hlt] at hg'
   rw [← hw4]
   exact (RO.out i g' hi2 hg').other (GSR.out i g' hi2 hg').symm _
  ·intro i g' hi2 hg'
   have hlt : i < gs.length := Nat.lt_of_lt_of_le hi2 HRL.out
   rw [List.getElem?_append_left hlt] at hg'
   rcases AT.out with e | e
   ·rw [e]; exact T0.out.sep i g' hi2 hg'
   ·rw [e]; intro hh; have := Option.some.inj hh; have := (T0.out.rows i g' hi2 hg').lt'; have := B2.out.size; omega
  ·intro i g' hi2 hg'
   have hlt : i < gs.length := Nat.lt_of_lt_of_le hi2 HRL.out
   rw [List.getElem?_append_left hlt] at hg'
   exact T0.out.gne i g' hi2 hg'
 have N4 : Hid (NRowT w4 g (List.replicate m 0)) := by rw [← hw4]; exact N3.out.other (by have := HG.out; have := HGT.out; show gt ≠ g; omega) _
 have K4 : Hid (KpR gt rv.ownBlock w w4) := by
  rw [← hw4]
  refine ⟨KP.out.os, KP.out.tape, KP.out.output, by simpa [World.setCell] using KP.out.size, fun i hi h1 h2 => ?_⟩
  rw [← KP.out.block i hi h1 h2]
  unfold World.setCell
  simp [Array.getElem?_modify, Ne.symm h1]
 rw [hw4]
 have s0 := T4.out.blk.cell 0
 simp at s0
 have s1 : w4.cell? ⟨gr, gs.length, none⟩ = some (.slice (some ⟨g, 0, none⟩) m m) := by
  obtain ⟨g', o', e1, -, e2⟩ := (Row.of_owns T4.out.own).at (i := gs.length) (x := rowV n g) (by rw [List.map_append, List.getElem?_append_right (by simp)]; simp)
  simp only [Option.some.injEq, Addr.mk.injEq] at e1
  obtain ⟨rfl, rfl, -⟩ := e1
  rw [Nat.zero_add] at e2
  rw [e2, rowV, HM.out]
 have wl : IntKind.i64.wrap (((gs.length + 1 : Nat) : Int) - 1) = (gs.length : Int) := by rw [IntWalk.i64_in _ ⟨by omega, by have := HGS.out; omega⟩]; omega
 have wl2 : IntKind.i64.wrap ((gs.length : Int) + 1 - 1) = (gs.length : Int) := by rw [IntWalk.i64_in _ ⟨by omega, by have := HGS.out; omega⟩]; omega
 have b1 : (0 : Int) ≤ (gs.length : Int) := by omega
 have b2 : (gs.length : Int) < ((gs.length + 1 : Nat) : Int) := by omega
 have wl3 : IntKind.i64.wrap (gs.length : Int) = (gs.length : Int) := by rw [IntWalk.i64_in _ ⟨by omega, by have := HGS.out; omega⟩]
 have b3 : (gs.length : Int) < (gs.length : Int) + 1 := by omega
 clear hw4 c30 c31 f3
 refine held_plain [0, 1, 2, 3, 4, 5, 6, 7, 8, 9, 10, 11, 12] 0 (fun W' => W'.cell? ⟨gt, 0, none⟩ = some (.slice (some ⟨gr, 0, none⟩) (gs.length + 1) cap) ∧ W'.cell? ⟨gr, gs.length, none⟩ = some (.slice (some ⟨g, 0, none⟩) m m)) (by kernel_rfl) (by kernel_rfl) (by kernel_rfl) (by kernel_rfl) ⟨s0, s1⟩ ?_
 iterate 13
  refine ⟨_, rfl, ?_⟩
  apply Exists.intro
  refine ⟨.inl ⟨by rfl, ?_⟩, ?_⟩
  ·(intro W' hW'; obtain ⟨q3, q4⟩ := hW'; go_simp; try (with_reducible rfl))
  (dsimp only [Act.put]; try simp only [List.setIfInBounds_toArray, List.set_cons_zero, List.set_cons_succ])
 refine wpAnyH_done (by kernel_rfl) ?_ _
 simp only [Only]
 go_wp2_with fail
 go_ret
 refine ⟨g, _, by rw [rowV, HM.out]; rfl, Nat.le_of_lt HG.out, N4.out, T4.out.drew, NEG.out, AT2.out, K4.out.drew⟩
end Go.Proofs.YtgphopkifomffaaGreatDoor
