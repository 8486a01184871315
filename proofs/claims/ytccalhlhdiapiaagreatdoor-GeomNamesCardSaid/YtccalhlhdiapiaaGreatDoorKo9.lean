/- Texts that the proof rests on, merged: Fr1b, Fr4, Rt4, Rt5, Rt6, Rt7, Lv0, Fac0, Fac1, Fac2, Fac3, Fac4, Gm0, Gs0, Lv, Zs, Lits, KoS, Ps1n. -/
import Derived.Test.YtccalhlhdiapiaaGreatDoorKo8
namespace Go.Proofs.YtccalhlhdiapiaaGreatDoor
open Go.RowKit
open Go.Lib (decDigits nDigits)
set_option linter.unusedVariables false
theorem f_Inv (w : World) (v : Value) (q : Rat) (h : IsQ .u64 w v q) (h0 : q ≠ 0) :
    Calls Tryz.prog 132 #[v] w fun e w' => RetQ .u64 q⁻¹ e w' ∧ Below w.heap.size w w' := by
  obtain ⟨N, D, rfl, hn, hd⟩ := h.ex
  obtain ⟨m, hm⟩ : ∃ m, decide (q.num < 0) = m := ⟨_, rfl⟩
  have HN := hid hn; have HD := hid hd; have HM := hid hm; have H0 := hid h0
  rw [hm]
  obtain ⟨a1, c1, rfl, _⟩ := hn.openI
  obtain ⟨a2, c2, rfl, _⟩ := hd.openI
  clear hn hd hm h0 h
  go_enter Tryz.func132, Tryz.ntmps132
  go_wp2_with fail
  obtain ⟨p1, p2, p3⟩ := inv_num H0.out
  have B := ((Below.refl w.heap.size w).alloc (Nat.le_refl _) (.cells #[.bool m, .slice a1 (limbs q.num.natAbs).length c1, .slice a2 (limbs q.den).length c2] 125)).alloc (by simp) (.cells #[.bool m, .slice a2 (limbs q.den).length c2, .slice a1 (limbs q.num.natAbs).length c1] 125)
  refine bodyPost_ret (v := .agg #[.bool m, .slice a2 (limbs q.den).length c2, .slice a1 (limbs q.num.natAbs).length c1]) (by simp [results, Tryz.results132, go_sem]) rfl ⟨⟨_, rfl, ⟨_, _, rfl.trans ?_, by rw [p2]; exact HD.out.call B, by rw [p3]; exact HN.out.call B⟩⟩, B⟩
  rw [p1, HM.out]
/-- The sign of a number. -/
def sgQ (q : Rat) : Int := if q.num = 0 then 0 else if q.num < 0 then -1 else 1
theorem sgQ_zero {q : Rat} (h : q.num = 0) : sgQ q = 0 := if_pos h
theorem sgQ_neg {q : Rat} (h : ¬ q.num = 0) (h2 : q.num < 0) : sgQ q = -1 := by rw [sgQ, if_neg h, if_pos h2]
theorem sgQ_pos {q : Rat} (h : ¬ q.num = 0) (h2 : ¬ q.num < 0) : sgQ q = 1 := by rw [sgQ, if_neg h, if_neg h2]
theorem f_Sign (w : World) (v : Value) (q : Rat) (h : IsQ .u64 w v q) :
    Calls Tryz.prog 131 #[v] w fun e w' => e = .returned (.int .i64 (sgQ q)) ∧ Below w.heap.size w w' := by
  obtain ⟨N, D, rfl, hn, hd⟩ := h.ex
  obtain ⟨m, hm⟩ : ∃ m, decide (q.num < 0) = m := ⟨_, rfl⟩
  have HN := hid hn; have HM := hid hm
  rw [hm]
  obtain ⟨a1, c1, rfl, _⟩ := hn.openI
  obtain ⟨a2, c2, rfl, _⟩ := hd.openI
  obtain ⟨k1, hk1⟩ : ∃ k, (limbs q.num.natAbs).length = k := ⟨_, rfl⟩
  obtain ⟨k2, hk2⟩ : ∃ k, (limbs q.den).length = k := ⟨_, rfl⟩
  rw [hk1] at HN ⊢
  rw [hk2]
  have b0 := hid ((Below.refl w.heap.size w).alloc (Nat.le_refl _) (.cells #[.bool m, .slice a1 k1 c1, .slice a2 k2 c2] 125))
  have N0 := hid (HN.out.call b0.out)
  clear hn hd hm h hk1 hk2
  go_enter Tryz.func131, Tryz.ntmps131
  go_wp2_with fail
  refine (l_Zero _ _ _ N0.out).mono ?_; rintro e w1 ⟨rfl, rfl⟩
  by_cases hz : q.num = 0
  · have h1 : isZ q.num.natAbs = true := isZ_iff.2 (by omega)
    rw [h1]
    have HZ := hid hz
    clear h1 hz
    go_wp2_with fail
    go_ret
    exact ⟨ret_int (sgQ_zero HZ.out).symm, b0.out⟩
  · have h1 : isZ q.num.natAbs = false := decide_eq_false (by omega)
    rw [h1]
    have HZ := hid hz
    clear h1 hz
    cases m
    · go_wp2_with fail
      go_ret
      exact ⟨ret_int (sgQ_pos HZ.out (of_decide_eq_false HM.out)).symm, b0.out⟩
    · go_wp2_with fail
      go_ret
      exact ⟨ret_int (sgQ_neg HZ.out (of_decide_eq_true HM.out)).symm, b0.out⟩
theorem neg_partsU {q : Rat} {m : Bool} (hm : decide (q.num < 0) = m) : decide ((-q).num < 0) = (!m && !isZ q.num.natAbs) ∧ (-q).num.natAbs = q.num.natAbs ∧ (-q).den = q.den := by
  refine ⟨?_, by rw [Rat.neg_num, Int.natAbs_neg], Rat.neg_den q⟩
  rw [Rat.neg_num, ← hm, Bool.eq_iff_iff]
  unfold isZ
  simp only [Bool.and_eq_true, Bool.not_eq_true', decide_eq_true_eq, decide_eq_false_iff_not]
  omega
set_option maxRecDepth 100000 in
set_option maxHeartbeats 1000000 in
theorem f_Neg (w : World) (v : Value) (q : Rat) (h : IsQ .u64 w v q) :
    Calls Tryz.prog 186 #[v] w fun e w' => RetQ .u64 (-q) e w' ∧ Below w.heap.size w w' := by
  obtain ⟨N, D, rfl, hn, hd⟩ := h.ex
  obtain ⟨m, hm⟩ : ∃ m, decide (q.num < 0) = m := ⟨_, rfl⟩
  have HN := hid hn; have HD := hid hd; have HP := hid (neg_partsU hm)
  rw [hm]
  obtain ⟨a1, c1, rfl, _⟩ := hn.openI
  obtain ⟨a2, c2, rfl, _⟩ := hd.openI
  obtain ⟨k1, hk1⟩ : ∃ k, (limbs q.num.natAbs).length = k := ⟨_, rfl⟩
  obtain ⟨k2, hk2⟩ : ∃ k, (limbs q.den).length = k := ⟨_, rfl⟩
  rw [hk1] at HN ⊢
  rw [hk2] at HD ⊢
  have HZ := fun W h => hid (l_Zero W (.slice a1 k1 c1) q.num.natAbs h)
  obtain ⟨z, hz⟩ : ∃ z, isZ q.num.natAbs = z := ⟨_, rfl⟩
  rw [hz] at HP HZ
  clear hn hd hm h hk1 hk2 hz
  have b1 := hid (((Below.refl w.heap.size w).alloc (Nat.le_refl _) (.cells #[.bool m, .slice a1 k1 c1, .slice a2 k2 c2] 125)).alloc (by simp) (.cells #[.bool false, .slice none 0 0, .slice none 0 0] 125))
  cases m
  · go_enter Tryz.func186, Tryz.ntmps186
    go_wp2_with fail
    refine region_tail 14 (by kernel_rfl) (by kernel_rfl) ?_
    simp only [List.take_succ_cons, List.take_zero, List.drop_succ_cons, List.drop_zero]
    iterate 6 still_step
    still_call ((HZ _ (HN.out.call b1.out.drew)).out.mono fun _ _ h => ⟨h.1, h.2.symm⟩)
    iterate 7 still_step
    refine wpStill_nil ?_
    go_wp2_with fail
    have b2 := (((Below.refl w.heap.size w).alloc (Nat.le_refl _) (.cells #[.bool false, .slice a1 k1 c1, .slice a2 k2 c2] 125)).alloc (by simp) (.cells #[.bool (!z), .slice a1 k1 c1, .slice a2 k2 c2] 125)).drew
    obtain ⟨p1, p2, p3⟩ := HP.out
    refine bodyPost_ret (v := .agg #[.bool (!z), .slice a1 k1 c1, .slice a2 k2 c2]) (by simp [results, Tryz.results186, go_sem]) rfl ⟨⟨_, rfl, ⟨.slice a1 k1 c1, .slice a2 k2 c2, ?_, ?_, ?_⟩⟩, b2⟩
    · rw [p1]; rfl
    · rw [p2]; exact HN.out.call b2
    · rw [p3]; exact HD.out.call b2
  · go_enter Tryz.func186, Tryz.ntmps186
    go_wp2_with fail
    refine region_tail 14 (by kernel_rfl) (by kernel_rfl) ?_
    simp only [List.take_succ_cons, List.take_zero, List.drop_succ_cons, List.drop_zero]
    iterate 14 still_step
    refine wpStill_nil ?_
    go_wp2_with fail
    have b2 := (((Below.refl w.heap.size w).alloc (Nat.le_refl _) (.cells #[.bool true, .slice a1 k1 c1, .slice a2 k2 c2] 125)).alloc (by simp) (.cells #[.bool false, .slice a1 k1 c1, .slice a2 k2 c2] 125)).drew
    obtain ⟨p1, p2, p3⟩ := HP.out
    refine bodyPost_ret (v := .agg #[.bool false, .slice a1 k1 c1, .slice a2 k2 c2]) (by simp [results, Tryz.results186, go_sem]) rfl ⟨⟨_, rfl, ⟨.slice a1 k1 c1, .slice a2 k2 c2, ?_, ?_, ?_⟩⟩, b2⟩
    · rw [p1]; rfl
    · rw [p2]; exact HN.out.call b2
    · rw [p3]; exact HD.out.call b2
end Go.Proofs.YtccalhlhdiapiaaGreatDoor
namespace Go.Proofs.YtccalhlhdiapiaaGreatDoor
open Go.RowKit
set_option linter.unusedVariables false
set_option linter.unusedSimpArgs false
theorem q_add_same {p q : Rat} {m : Bool} (h1 : decide (p.num < 0) = m) (h2 : decide (q.num < 0) = m) : qmk m (p.num.natAbs * q.den + q.num.natAbs * p.den) (p.den * q.den) = p + q := by
  rw [q_add, h1, h2, sgn_same]; rfl
theorem q_add_less {p q : Rat} {m1 m2 : Bool} (h1 : decide (p.num < 0) = m1) (h2 : decide (q.num < 0) = m2) (h : m1 ≠ m2) (hl : p.num.natAbs * q.den < q.num.natAbs * p.den) : qmk m2 (q.num.natAbs * p.den - p.num.natAbs * q.den) (p.den * q.den) = p + q := by
  rw [q_add, h1, h2, sgn_less h hl]; rfl
theorem q_add_more {p q : Rat} {m1 m2 : Bool} (h1 : decide (p.num < 0) = m1) (h2 : decide (q.num < 0) = m2) (h : m1 ≠ m2) (hl : q.num.natAbs * p.den ≤ p.num.natAbs * q.den) : qmk m1 (p.num.natAbs * q.den - q.num.natAbs * p.den) (p.den * q.den) = p + q := by
  rw [q_add, h1, h2, sgn_more h hl]; rfl
set_option maxRecDepth 100000 in
set_option maxHeartbeats 4000000 in
theorem f_Add (w : World) (v u : Value) (p q : Rat) (hp : IsQ .u64 w v p) (hq : IsQ .u64 w u q)
    (h1 : (limbs p.num.natAbs).length ≤ 100000) (h2 : (limbs p.den).length ≤ 100000) (h3 : (limbs q.num.natAbs).length ≤ 100000) (h4 : (limbs q.den).length ≤ 100000) :
    Calls Tryz.prog 142 #[v, u] w fun e w' => RetQ .u64 (p + q) e w' ∧ Below w.heap.size w w' := by
  obtain ⟨m1, hm1⟩ : ∃ m, decide (p.num < 0) = m := ⟨_, rfl⟩
  obtain ⟨m2, hm2⟩ : ∃ m, decide (q.num < 0) = m := ⟨_, rfl⟩
  have s1 := fun (e : m1 = m2) => q_add_same (m := m1) hm1 (hm2.trans e.symm)
  have s2 := q_add_less hm1 hm2
  have s3 := q_add_more hm1 hm2
  obtain ⟨Q, hQ⟩ : ∃ Q, p + q = Q := ⟨_, rfl⟩
  rw [hQ] at s1 s2 s3 ⊢
  have hD := hid (Nat.mul_pos p.den_pos q.den_pos)
  obtain ⟨N1, D1, rfl, hn1, hd1⟩ := hp.ex
  obtain ⟨N2, D2, rfl, hn2, hd2⟩ := hq.ex
  rw [hm1, hm2]
  clear hp hq hQ hm1 hm2
  generalize p.num.natAbs = n1 at *
  generalize q.num.natAbs = n2 at *
  generalize p.den = d1 at *
  generalize q.den = d2 at *
  have S1 := hid s1; have S2 := hid s2; have S3 := hid s3
  have HN1 := hid hn1; have HD1 := hid hd1; have HN2 := hid hn2; have HD2 := hid hd2
  have lx := len_mul h1 h4
  have ly := len_mul h3 h2
  have ld := len_mul h2 h4
  have LX := hid (Nat.le_trans lx (show 100000 + 100000 ≤ 200000 by omega)); have LY := hid (Nat.le_trans ly (show 100000 + 100000 ≤ 200000 by omega)); have LD := hid (Nat.le_trans ld (show 100000 + 100000 ≤ 1000000 by omega))
  have LXY := hid (Nat.le_trans (len_add lx ly) (show 100000 + 100000 + (100000 + 100000) + 1 ≤ 1000000 by omega))
  have H1 := hid (Nat.le_trans h1 (show 100000 ≤ 1000000 by omega))
  have H2 := hid (Nat.le_trans h2 (show 100000 ≤ 1000000 by omega))
  have H3 := hid (Nat.le_trans h3 (show 100000 ≤ 1000000 by omega))
  have H4 := hid (Nat.le_trans h4 (show 100000 ≤ 1000000 by omega))
  clear h1 h2 h3 h4 lx ly ld s1 s2 s3
  obtain ⟨a1, c1, rfl, _⟩ := hn1.openI
  obtain ⟨a2, c2, rfl, _⟩ := hd1.openI
  obtain ⟨a3, c3, rfl, _⟩ := hn2.openI
  obtain ⟨a4, c4, rfl, _⟩ := hd2.openI
  clear hn1 hd1 hn2 hd2
  go_enter Tryz.func142, Tryz.ntmps142
  go_wp2_with fail
  obtain ⟨W, hW⟩ : ∃ W, ((w.alloc (.cells #[.bool m1, .slice a1 (limbs n1).length c1, .slice a2 (limbs d1).length c2] 125)).alloc (.cells #[.bool m2, .slice a3 (limbs n2).length c3, .slice a4 (limbs d2).length c4] 125)).alloc (.cells #[.bool false, .slice none 0 0, .slice none 0 0] 125) = W := ⟨_, rfl⟩
  have T := hid (Three.mk' hW)
  rw [hW]
  clear hW
  have hS := T.out.cells (Below.refl _ _).drew
  have B0 := hid (T.out.below.drew)
  have C0 := hid ((Below.refl W.heap.size W).drew)
  refine held_plain [0, 1, 2, 3, 5, 6, 7, 8] 4 (twoF w.heap.size m1 m2 (.slice a1 (limbs n1).length c1) (.slice a2 (limbs d1).length c2) (.slice a3 (limbs n2).length c3) (.slice a4 (limbs d2).length c4)) (by kernel_rfl) (by kernel_rfl) (by kernel_rfl) (by kernel_rfl) hS ?_
  iterate 8
    refine ⟨_, rfl, ?_⟩
    apply Exists.intro
    refine ⟨.inl ⟨by rfl, ?_⟩, ?_⟩
    · (intro W' hW'; obtain ⟨q1, q2, q3, q4, q5, q6⟩ := hW'; go_simp; try (with_reducible rfl))
    (dsimp only [Act.put]; try simp only [List.setIfInBounds_toArray, List.set_cons_zero, List.set_cons_succ])
  clear hS
  refine held_one (i := 4) (by kernel_rfl) (by rfl) (by rfl) ?_
  go_wp2_with fail
  refine (l_Mul _ _ _ n1 d2 (HN1.out.call B0.out) (HD2.out.call B0.out) H1.out H4.out).mono ?_; rintro e w1 ⟨⟨v1, rfl, hv1⟩, hb1⟩
  have B1 := hid (B0.out.trans (hb1.mono B0.out.size)); have C1 := hid (bnext C0.out hb1); have V1 := hid hv1
  clear hb1 hv1
  go_wp2_with fail
  refine ⟨T.out.cells C1.out, ?_⟩
  refine held_one (i := 9) (by kernel_rfl) (by rfl) (by rfl) ?_
  go_wp2_with fail
  refine (l_Mul _ _ _ n2 d1 (HN2.out.call B1.out) (HD1.out.call B1.out) H3.out H2.out).mono ?_; rintro e w2 ⟨⟨v2, rfl, hv2⟩, hb2⟩
  have B2 := hid (B1.out.trans (hb2.mono B1.out.size)); have C2 := hid (bnext C1.out hb2); have V2 := hid hv2; have W1 := hid (V1.out.call hb2)
  clear hb2 hv2
  go_wp2_with fail
  refine ⟨T.out.cells C2.out, ?_⟩
  refine held_more (is := [10, 11]) (g := 0) (by kernel_rfl) rfl (T.out.cells C2.out) (by kernel_rfl) ?_
  iterate 2
    refine ⟨_, rfl, ?_⟩
    apply Exists.intro
    refine ⟨.inl ⟨by rfl, ?_⟩, ?_⟩
    · (intro W' hW'; clear hW'; go_simp; try (with_reducible rfl))
    (dsimp only [Act.put]; try simp only [List.setIfInBounds_toArray, List.set_cons_zero, List.set_cons_succ])
  refine wpAnyH_done (by kernel_rfl) ?_ _
  simp only [Only]
  obtain ⟨k0, k1, k2, k3, k4, k5⟩ := T.out.cells C2.out
  go_wp2_with fail
  refine (l_Mul _ _ _ d1 d2 (HD1.out.call B2.out) (HD2.out.call B2.out) H2.out H4.out).mono ?_; rintro e w3 ⟨⟨v3, rfl, hv3⟩, hb3⟩
  have B3 := hid (B2.out.trans (hb3.mono B2.out.size)); have C3 := hid (bnext C2.out hb3); have V3 := hid hv3; have X1 := hid (W1.out.call hb3); have X2 := hid (V2.out.call hb3)
  clear hb3 hv3 k0 k1 k2 k3 k4 k5
  go_wp2_with fail
  refine (l_Cmp _ _ _ (n1 * d2) (n2 * d1) X1.out X2.out (Nat.le_trans LX.out (by omega))).mono ?_; rintro e w4 ⟨rfl, hb4⟩
  have B4 := hid (B3.out.trans (hb4.mono B3.out.size)); have C4 := hid (bnext C3.out hb4); have V4 := hid (V3.out.call hb4); have Y1 := hid (X1.out.call hb4); have Y2 := hid (X2.out.call hb4)
  clear hb4
  obtain ⟨k0, k1, k2, k3, k4, k5⟩ := T.out.cells C4.out
  clear B0 B1 B2 B3 C0 C1 C2 C3 V1 V2 V3 W1 X1 X2
  obtain ⟨X, hX⟩ : ∃ X, n1 * d2 = X := ⟨_, rfl⟩
  obtain ⟨Y, hY⟩ : ∃ X, n2 * d1 = X := ⟨_, rfl⟩
  obtain ⟨E, hE⟩ : ∃ X, d1 * d2 = X := ⟨_, rfl⟩
  rw [hX] at S1 S2 S3 LX LXY Y1 ⊢
  rw [hY] at S1 S2 S3 LY LXY Y2 ⊢
  rw [hE] at S1 S2 S3 LD V4 hD
  clear hX hY hE
  by_cases em : m1 = m2
  · have SA := hid (S1.out em)
    subst em
    have q0 : (m1 == m1) = true := beq_self_eq_true m1
    go_wp2_with fail
    have hS := T.out.cells C4.out.drew
    have B0 := hid B4.out.drew
    have C0 := hid C4.out.drew
    refine held_plain [0, 1, 2, 3, 5] 3 (twoF w.heap.size m1 m1 (.slice a1 (limbs n1).length c1) (.slice a2 (limbs d1).length c2) (.slice a3 (limbs n2).length c3) (.slice a4 (limbs d2).length c4)) (by kernel_rfl) (by kernel_rfl) (by kernel_rfl) (by kernel_rfl) hS ?_
    iterate 5
      refine ⟨_, rfl, ?_⟩
      apply Exists.intro
      refine ⟨.inl ⟨by rfl, ?_⟩, ?_⟩
      · (intro W' hW'; obtain ⟨q1, q2, q3, q4, q5, q6⟩ := hW'; go_simp; try (with_reducible rfl))
      (dsimp only [Act.put]; try simp only [List.setIfInBounds_toArray, List.set_cons_zero, List.set_cons_succ])
    clear hS
    refine held_one (i := 4) (by kernel_rfl) (by rfl) (by rfl) ?_
    go_wp2_with fail
    refine (l_Add _ _ _ X Y (Y1.out.call (Below.refl _ _).drew) (Y2.out.call (Below.refl _ _).drew) (Nat.le_trans LX.out (by omega)) (Nat.le_trans LY.out (by omega))).mono ?_; rintro e w5 ⟨⟨v5, rfl, hv5⟩, hb5⟩
    have B5 := hid (B0.out.trans (hb5.mono B0.out.size)); have C5 := hid (C0.out.trans (hb5.mono C0.out.size)); have V5 := hid hv5; have E5 := hid (V4.out.call (show Below w4.heap.size w4 w5 from (Below.refl _ _).drew.trans hb5))
    clear hb5 hv5
    go_wp2_with fail
    refine ⟨T.out.cells C5.out, ?_⟩
    refine held_one (i := 6) (by kernel_rfl) (by rfl) (by rfl) ?_
    go_wp2_with fail
    refine (f_Make _ _ _ _ (X + Y) E V5.out E5.out hD.out (LXY.out) LD.out).mono ?_; rintro e w6 ⟨⟨v3, rfl, hv3⟩, hb6⟩
    rw [SA.out] at hv3
    have B6 := hid (B5.out.trans (hb6.mono B5.out.size)); have C6 := hid (C5.out.trans (hb6.mono C5.out.size))
    clear hb6
    obtain ⟨N3, D3, rfl, hN3, hD3⟩ := hv3.ex
    obtain ⟨a5, c5, rfl, _⟩ := hN3.openI
    obtain ⟨a6, c6, rfl, _⟩ := hD3.openI
    obtain ⟨k5, hk5⟩ : ∃ k, (limbs Q.num.natAbs).length = k := ⟨_, rfl⟩
    obtain ⟨k6, hk6⟩ : ∃ k, (limbs Q.den).length = k := ⟨_, rfl⟩
    obtain ⟨mq, hmq⟩ : ∃ m, decide (Q.num < 0) = m := ⟨_, rfl⟩
    rw [hk5] at hN3 ⊢
    rw [hk6] at hD3 ⊢
    rw [hmq]
    have HN3 := hid hN3; have HD3 := hid hD3; have HMQ := hid hmq
    have Z := hid (T.out.b2.call C6.out)
    have t0 := Z.out.cell 0
    have t1 := Z.out.cell 1
    have t2 := Z.out.cell 2
    have t3 := Z.out.free 0
    have t4 := Z.out.free 1
    have t5 := Z.out.free 2
    simp at t0 t1 t2
    clear hv3 hN3 hD3 hk5 hk6 hmq
    go_wp2_with fail
    refine ⟨T.out.cells C6.out, ?_⟩
    refine held_one (i := 7) (by kernel_rfl) (by rfl) (by rfl) ?_
    go_wp2_with fail
    refine ⟨T.out.stored C6.out _ _ _, ?_⟩
    refine wpAnyH_done (by kernel_rfl) ?_ _
    simp only [Only]
    obtain ⟨s1, s2⟩ := set3 Z.out mq a5 a6 k5 c5 k6 c6
    have f0 := s2.cell 0
    have f1 := s2.cell 1
    have f2 := s2.cell 2
    simp at f0 f1 f2
    clear t0 t1 t2 t3 t4 t5
    go_wp2_with fail
    refine bodyPost_ret (v := .agg #[.bool mq, .slice a5 k5 c5, .slice a6 k6 c6]) (by simp [results, Tryz.results142, go_sem, f0, f1, f2]) rfl ⟨⟨_, rfl, ⟨.slice a5 k5 c5, .slice a6 k6 c6, by rw [HMQ.out], s1 _ _ _ HN3.out, s1 _ _ _ HD3.out⟩⟩, ?_⟩
    exact ((B6.out.setCell (by simp; omega) _).setCell (by simp; omega) _).setCell (by simp; omega) _
  · have q0 : (m1 == m2) = false := by simpa using em
    have HE := hid em
    clear em
    by_cases hc : X < Y
    · have HC := hid hc
      rw [ordN_lt hc]
      clear hc
      go_wp2_with fail
      have hS := T.out.cells C4.out.drew
      have B0 := hid B4.out.drew
      have C0 := hid C4.out.drew
      refine held_plain [0, 1, 2, 3, 5] 3 (twoF w.heap.size m1 m2 (.slice a1 (limbs n1).length c1) (.slice a2 (limbs d1).length c2) (.slice a3 (limbs n2).length c3) (.slice a4 (limbs d2).length c4)) (by kernel_rfl) (by kernel_rfl) (by kernel_rfl) (by kernel_rfl) hS ?_
      iterate 5
        refine ⟨_, rfl, ?_⟩
        apply Exists.intro
        refine ⟨.inl ⟨by rfl, ?_⟩, ?_⟩
        · (intro W' hW'; obtain ⟨q1, q2, q3, q4, q5, q6⟩ := hW'; go_simp; try (with_reducible rfl))
        (dsimp only [Act.put]; try simp only [List.setIfInBounds_toArray, List.set_cons_zero, List.set_cons_succ])
      clear hS
      refine held_one (i := 4) (by kernel_rfl) (by rfl) (by rfl) ?_
      go_wp2_with fail
      refine (l_Sub _ _ _ Y X (Y2.out.call (Below.refl _ _).drew) (Y1.out.call (Below.refl _ _).drew) (Nat.le_of_lt HC.out) (Nat.le_trans LY.out (by omega))).mono ?_; rintro e w5 ⟨⟨v5, rfl, hv5⟩, hb5⟩
      have B5 := hid (B0.out.trans (hb5.mono B0.out.size)); have C5 := hid (C0.out.trans (hb5.mono C0.out.size)); have V5 := hid hv5; have E5 := hid (V4.out.call (show Below w4.heap.size w4 w5 from (Below.refl _ _).drew.trans hb5))
      clear hb5 hv5
      go_wp2_with fail
      refine ⟨T.out.cells C5.out, ?_⟩
      refine held_one (i := 6) (by kernel_rfl) (by rfl) (by rfl) ?_
      go_wp2_with fail
      refine (f_Make _ _ _ _ (Y - X) E V5.out E5.out hD.out (Nat.le_trans (limbs_length_mono (Nat.sub_le Y X)) (Nat.le_trans LY.out (by omega))) LD.out).mono ?_; rintro e w6 ⟨⟨v3, rfl, hv3⟩, hb6⟩
      rw [S2.out HE.out HC.out] at hv3
      have B6 := hid (B5.out.trans (hb6.mono B5.out.size)); have C6 := hid (C5.out.trans (hb6.mono C5.out.size))
      clear hb6
      obtain ⟨N3, D3, rfl, hN3, hD3⟩ := hv3.ex
      obtain ⟨a5, c5, rfl, _⟩ := hN3.openI
      obtain ⟨a6, c6, rfl, _⟩ := hD3.openI
      obtain ⟨k5, hk5⟩ : ∃ k, (limbs Q.num.natAbs).length = k := ⟨_, rfl⟩
      obtain ⟨k6, hk6⟩ : ∃ k, (limbs Q.den).length = k := ⟨_, rfl⟩
      obtain ⟨mq, hmq⟩ : ∃ m, decide (Q.num < 0) = m := ⟨_, rfl⟩
      rw [hk5] at hN3 ⊢
      rw [hk6] at hD3 ⊢
      rw [hmq]
      have HN3 := hid hN3; have HD3 := hid hD3; have HMQ := hid hmq
      have Z := hid (T.out.b2.call C6.out)
      have t0 := Z.out.cell 0
      have t1 := Z.out.cell 1
      have t2 := Z.out.cell 2
      have t3 := Z.out.free 0
      have t4 := Z.out.free 1
      have t5 := Z.out.free 2
      simp at t0 t1 t2
      clear hv3 hN3 hD3 hk5 hk6 hmq
      go_wp2_with fail
      refine ⟨T.out.cells C6.out, ?_⟩
      refine held_one (i := 7) (by kernel_rfl) (by rfl) (by rfl) ?_
      go_wp2_with fail
      refine ⟨T.out.stored C6.out _ _ _, ?_⟩
      refine wpAnyH_done (by kernel_rfl) ?_ _
      simp only [Only]
      obtain ⟨s1, s2⟩ := set3 Z.out mq a5 a6 k5 c5 k6 c6
      have f0 := s2.cell 0
      have f1 := s2.cell 1
      have f2 := s2.cell 2
      simp at f0 f1 f2
      clear t0 t1 t2 t3 t4 t5
      go_wp2_with fail
      refine bodyPost_ret (v := .agg #[.bool mq, .slice a5 k5 c5, .slice a6 k6 c6]) (by simp [results, Tryz.results142, go_sem, f0, f1, f2]) rfl ⟨⟨_, rfl, ⟨.slice a5 k5 c5, .slice a6 k6 c6, by rw [HMQ.out], s1 _ _ _ HN3.out, s1 _ _ _ HD3.out⟩⟩, ?_⟩
      exact ((B6.out.setCell (by simp; omega) _).setCell (by simp; omega) _).setCell (by simp; omega) _
    · have HC := hid (show Y ≤ X by omega)
      have q1 : decide (ordN X Y < 0) = false := by
        rcases Nat.lt_or_ge Y X with h | h
        · rw [ordN_gt h]; rfl
        · rw [show X = Y by omega, ordN_eq]; rfl
      clear hc
      go_wp2_with fail
      have hS := T.out.cells C4.out.drew
      have B0 := hid B4.out.drew
      have C0 := hid C4.out.drew
      refine held_plain [0, 1, 2, 3, 5] 3 (twoF w.heap.size m1 m2 (.slice a1 (limbs n1).length c1) (.slice a2 (limbs d1).length c2) (.slice a3 (limbs n2).length c3) (.slice a4 (limbs d2).length c4)) (by kernel_rfl) (by kernel_rfl) (by kernel_rfl) (by kernel_rfl) hS ?_
      iterate 5
        refine ⟨_, rfl, ?_⟩
        apply Exists.intro
        refine ⟨.inl ⟨by rfl, ?_⟩, ?_⟩
        · (intro W' hW'; obtain ⟨q1, q2, q3, q4, q5, q6⟩ := hW'; go_simp; try (with_reducible rfl))
        (dsimp only [Act.put]; try simp only [List.setIfInBounds_toArray, List.set_cons_zero, List.set_cons_succ])
      clear hS
      refine held_one (i := 4) (by kernel_rfl) (by rfl) (by rfl) ?_
      go_wp2_with fail
      refine (l_Sub _ _ _ X Y (Y1.out.call (Below.refl _ _).drew) (Y2.out.call (Below.refl _ _).drew) HC.out (Nat.le_trans LX.out (by omega))).mono ?_; rintro e w5 ⟨⟨v5, rfl, hv5⟩, hb5⟩
      have B5 := hid (B0.out.trans (hb5.mono B0.out.size)); have C5 := hid (C0.out.trans (hb5.mono C0.out.size)); have V5 := hid hv5; have E5 := hid (V4.out.call (show Below w4.heap.size w4 w5 from (Below.refl _ _).drew.trans hb5))
      clear hb5 hv5
      go_wp2_with fail
      refine ⟨T.out.cells C5.out, ?_⟩
      refine held_one (i := 6) (by kernel_rfl) (by rfl) (by rfl) ?_
      go_wp2_with fail
      refine (f_Make _ _ _ _ (X - Y) E V5.out E5.out hD.out (Nat.le_trans (limbs_length_mono (Nat.sub_le X Y)) (Nat.le_trans LX.out (by omega))) LD.out).mono ?_; rintro e w6 ⟨⟨v3, rfl, hv3⟩, hb6⟩
      rw [S3.out HE.out HC.out] at hv3
      have B6 := hid (B5.out.trans (hb6.mono B5.out.size)); have C6 := hid (C5.out.trans (hb6.mono C5.out.size))
      clear hb6
      obtain ⟨N3, D3, rfl, hN3, hD3⟩ := hv3.ex
      obtain ⟨a5, c5, rfl, _⟩ := hN3.openI
      obtain ⟨a6, c6, rfl, _⟩ := hD3.openI
      obtain ⟨k5, hk5⟩ : ∃ k, (limbs Q.num.natAbs).length = k := ⟨_, rfl⟩
      obtain ⟨k6, hk6⟩ : ∃ k, (limbs Q.den).length = k := ⟨_, rfl⟩
      obtain ⟨mq, hmq⟩ : ∃ m, decide (Q.num < 0) = m := ⟨_, rfl⟩
      rw [hk5] at hN3 ⊢
      rw [hk6] at hD3 ⊢
      rw [hmq]
      have HN3 := hid hN3; have HD3 := hid hD3; have HMQ := hid hmq
      have Z := hid (T.out.b2.call C6.out)
      have t0 := Z.out.cell 0
      have t1 := Z.out.cell 1
      have t2 := Z.out.cell 2
      have t3 := Z.out.free 0
      have t4 := Z.out.free 1
      have t5 := Z.out.free 2
      simp at t0 t1 t2
      clear hv3 hN3 hD3 hk5 hk6 hmq
      go_wp2_with fail
      refine ⟨T.out.cells C6.out, ?_⟩
      refine held_one (i := 7) (by kernel_rfl) (by rfl) (by rfl) ?_
      go_wp2_with fail
      refine ⟨T.out.stored C6.out _ _ _, ?_⟩
      refine wpAnyH_done (by kernel_rfl) ?_ _
      simp only [Only]
      obtain ⟨s1, s2⟩ := set3 Z.out mq a5 a6 k5 c5 k6 c6
      have f0 := s2.cell 0
      have f1 := s2.cell 1
      have f2 := s2.cell 2
      simp at f0 f1 f2
      clear t0 t1 t2 t3 t4 t5
      go_wp2_with fail
      refine bodyPost_ret (v := .agg #[.bool mq, .slice a5 k5 c5, .slice a6 k6 c6]) (by simp [results, Tryz.results142, go_sem, f0, f1, f2]) rfl ⟨⟨_, rfl, ⟨.slice a5 k5 c5, .slice a6 k6 c6, by rw [HMQ.out], s1 _ _ _ HN3.out, s1 _ _ _ HD3.out⟩⟩, ?_⟩
      exact ((B6.out.setCell (by simp; omega) _).setCell (by simp; omega) _).setCell (by simp; omega) _
set_option maxRecDepth 100000 in
set_option maxHeartbeats 2000000 in
theorem f_Sub (w : World) (v u : Value) (p q : Rat) (hp : IsQ .u64 w v p) (hq : IsQ .u64 w u q)
    (h1 : (limbs p.num.natAbs).length ≤ 100000) (h2 : (limbs p.den).length ≤ 100000) (h3 : (limbs q.num.natAbs).length ≤ 100000) (h4 : (limbs q.den).length ≤ 100000) :
    Calls Tryz.prog 138 #[v, u] w fun e w' => RetQ .u64 (p - q) e w' ∧ Below w.heap.size w w' := by
  have e1 : p + -q = p - q := (Rat.sub_eq_add_neg p q).symm
  have F1 := fun V v h => hid (f_Neg V v q h)
  have F2 := fun V v u hv hu => hid (f_Add V v u p (-q) hv hu h1 h2 (by rw [Rat.neg_num, Int.natAbs_neg]; exact h3) (by rw [Rat.neg_den]; exact h4))
  rw [e1] at F2
  obtain ⟨Q, hQ⟩ : ∃ Q, p - q = Q := ⟨_, rfl⟩
  rw [hQ] at F2 ⊢
  have HP := hid hp; have HQ' := hid hq
  obtain ⟨N1, D1, rfl, hn1, hd1⟩ := hp.ex
  obtain ⟨N2, D2, rfl, hn2, hd2⟩ := hq.ex
  obtain ⟨a1, c1, rfl, _⟩ := hn1.openI
  obtain ⟨a2, c2, rfl, _⟩ := hd1.openI
  obtain ⟨a3, c3, rfl, _⟩ := hn2.openI
  obtain ⟨a4, c4, rfl, _⟩ := hd2.openI
  clear hp hq hQ e1 hn1 hd1 hn2 hd2 h1 h2 h3 h4
  obtain ⟨m1, hm1⟩ : ∃ m, decide (p.num < 0) = m := ⟨_, rfl⟩
  obtain ⟨m2, hm2⟩ : ∃ m, decide (q.num < 0) = m := ⟨_, rfl⟩
  obtain ⟨l1, hl1⟩ : ∃ m, (limbs p.num.natAbs).length = m := ⟨_, rfl⟩
  obtain ⟨l2, hl2⟩ : ∃ m, (limbs p.den).length = m := ⟨_, rfl⟩
  obtain ⟨l3, hl3⟩ : ∃ m, (limbs q.num.natAbs).length = m := ⟨_, rfl⟩
  obtain ⟨l4, hl4⟩ : ∃ m, (limbs q.den).length = m := ⟨_, rfl⟩
  rw [hm1, hl1, hl2] at HP
  rw [hm2, hl3, hl4] at HQ'
  rw [hm1, hm2, hl1, hl2, hl3, hl4]
  clear hm1 hm2 hl1 hl2 hl3 hl4
  go_enter Tryz.func138, Tryz.ntmps138
  go_wp2_with fail
  obtain ⟨W, hW⟩ : ∃ W, ((w.alloc (.cells #[.bool m1, .slice a1 l1 c1, .slice a2 l2 c2] 125)).alloc (.cells #[.bool m2, .slice a3 l3 c3, .slice a4 l4 c4] 125)).alloc (.cells #[.bool false, .slice none 0 0, .slice none 0 0] 125) = W := ⟨_, rfl⟩
  have T := hid (Three.mk' hW)
  rw [hW]
  clear hW
  have hS := T.out.cells (Below.refl _ _).drew
  have B0 := hid (T.out.below.drew)
  have C0 := hid ((Below.refl W.heap.size W).drew)
  refine held_plain [0, 1] 3 (twoF w.heap.size m1 m2 (.slice a1 l1 c1) (.slice a2 l2 c2) (.slice a3 l3 c3) (.slice a4 l4 c4)) (by kernel_rfl) (by kernel_rfl) (by kernel_rfl) (by kernel_rfl) hS ?_
  iterate 2
    refine ⟨_, rfl, ?_⟩
    apply Exists.intro
    refine ⟨.inl ⟨by rfl, ?_⟩, ?_⟩
    · (intro W' hW'; obtain ⟨q1, q2, q3, q4, q5, q6⟩ := hW'; go_simp; try (with_reducible rfl))
    (dsimp only [Act.put]; try simp only [List.setIfInBounds_toArray, List.set_cons_zero, List.set_cons_succ])
  clear hS
  refine held_one (i := 2) (by kernel_rfl) (by rfl) (by rfl) ?_
  go_wp2_with fail
  refine (F1 _ _ (HQ'.out.call B0.out)).out.mono ?_; rintro e w1 ⟨⟨v1, rfl, hv1⟩, hb1⟩
  have B1 := hid (B0.out.trans (hb1.mono B0.out.size)); have C1 := hid (bnext C0.out hb1); have V1 := hid hv1
  clear hb1 hv1
  go_wp2_with fail
  refine ⟨T.out.cells C1.out, ?_⟩
  refine held_one (i := 3) (by kernel_rfl) (by rfl) (by rfl) ?_
  go_wp2_with fail
  refine (F2 _ _ _ (HP.out.call B1.out) V1.out).out.mono ?_; rintro e w3 ⟨⟨v3, rfl, hv3⟩, hb3⟩
  have B3 := hid (B1.out.trans (hb3.mono B1.out.size)); have C3 := hid (bnext C1.out hb3)
  clear hb3
  obtain ⟨N3, D3, rfl, hN3, hD3⟩ := hv3.ex
  obtain ⟨a5, c5, rfl, _⟩ := hN3.openI
  obtain ⟨a6, c6, rfl, _⟩ := hD3.openI
  obtain ⟨k5, hk5⟩ : ∃ k, (limbs Q.num.natAbs).length = k := ⟨_, rfl⟩
  obtain ⟨k6, hk6⟩ : ∃ k, (limbs Q.den).length = k := ⟨_, rfl⟩
  obtain ⟨mq, hmq⟩ : ∃ m, decide (Q.num < 0) = m := ⟨_, rfl⟩
  rw [hk5] at hN3 ⊢
  rw [hk6] at hD3 ⊢
  rw [hmq]
  have HN3 := hid hN3; have HD3 := hid hD3; have HMQ := hid hmq
  have Z := hid (T.out.b2.call C3.out)
  have t0 := Z.out.cell 0
  have t1 := Z.out.cell 1
  have t2 := Z.out.cell 2
  have t3 := Z.out.free 0
  have t4 := Z.out.free 1
  have t5 := Z.out.free 2
  simp at t0 t1 t2
  clear hv3 hN3 hD3 hk5 hk6 hmq
  go_wp2_with fail
  refine ⟨T.out.cells C3.out, ?_⟩
  refine held_one (i := 4) (by kernel_rfl) (by rfl) (by rfl) ?_
  go_wp2_with fail
  refine ⟨T.out.stored C3.out _ _ _, ?_⟩
  refine wpAnyH_done (by kernel_rfl) ?_ _
  simp only [Only]
  obtain ⟨s1, s2⟩ := set3 Z.out mq a5 a6 k5 c5 k6 c6
  have f0 := s2.cell 0
  have f1 := s2.cell 1
  have f2 := s2.cell 2
  simp at f0 f1 f2
  clear t0 t1 t2 t3 t4 t5
  go_wp2_with fail
  refine bodyPost_ret (v := .agg #[.bool mq, .slice a5 k5 c5, .slice a6 k6 c6]) (by simp [results, Tryz.results138, go_sem, f0, f1, f2]) rfl ⟨⟨_, rfl, ⟨.slice a5 k5 c5, .slice a6 k6 c6, by rw [HMQ.out], s1 _ _ _ HN3.out, s1 _ _ _ HD3.out⟩⟩, ?_⟩
  exact ((B3.out.setCell (by simp; omega) _).setCell (by simp; omega) _).setCell (by simp; omega) _
set_option maxRecDepth 100000 in
set_option maxHeartbeats 2000000 in
theorem f_Div (w : World) (v u : Value) (p q : Rat) (hp : IsQ .u64 w v p) (hq : IsQ .u64 w u q) (h0 : q ≠ 0)
    (h1 : (limbs p.num.natAbs).length ≤ 100000) (h2 : (limbs p.den).length ≤ 100000) (h3 : (limbs q.num.natAbs).length ≤ 100000) (h4 : (limbs q.den).length ≤ 100000) :
    Calls Tryz.prog 191 #[v, u] w fun e w' => RetQ .u64 (p / q) e w' ∧ Below w.heap.size w w' := by
  have e1 : p * q⁻¹ = p / q := (Rat.div_def p q).symm
  have F1 := fun V v h => hid (f_Inv V v q h h0)
  have F2 := fun V v u hv hu => hid (f_Mul V v u p q⁻¹ hv hu h1 h2 (by rw [(inv_num h0).2.1]; exact h4) (by rw [(inv_num h0).2.2]; exact h3))
  rw [e1] at F2
  obtain ⟨Q, hQ⟩ : ∃ Q, p / q = Q := ⟨_, rfl⟩
  rw [hQ] at F2 ⊢
  have HP := hid hp; have HQ' := hid hq
  obtain ⟨N1, D1, rfl, hn1, hd1⟩ := hp.ex
  obtain ⟨N2, D2, rfl, hn2, hd2⟩ := hq.ex
  obtain ⟨a1, c1, rfl, _⟩ := hn1.openI
  obtain ⟨a2, c2, rfl, _⟩ := hd1.openI
  obtain ⟨a3, c3, rfl, _⟩ := hn2.openI
  obtain ⟨a4, c4, rfl, _⟩ := hd2.openI
  clear hp hq hQ e1 hn1 hd1 hn2 hd2 h0 h1 h2 h3 h4
  obtain ⟨m1, hm1⟩ : ∃ m, decide (p.num < 0) = m := ⟨_, rfl⟩
  obtain ⟨m2, hm2⟩ : ∃ m, decide (q.num < 0) = m := ⟨_, rfl⟩
  obtain ⟨l1, hl1⟩ : ∃ m, (limbs p.num.natAbs).length = m := ⟨_, rfl⟩
  obtain ⟨l2, hl2⟩ : ∃ m, (limbs p.den).length = m := ⟨_, rfl⟩
  obtain ⟨l3, hl3⟩ : ∃ m, (limbs q.num.natAbs).length = m := ⟨_, rfl⟩
  obtain ⟨l4, hl4⟩ : ∃ m, (limbs q.den).length = m := ⟨_, rfl⟩
  rw [hm1, hl1, hl2] at HP
  rw [hm2, hl3, hl4] at HQ'
  rw [hm1, hm2, hl1, hl2, hl3, hl4]
  clear hm1 hm2 hl1 hl2 hl3 hl4
  go_enter Tryz.func191, Tryz.ntmps191
  go_wp2_with fail
  obtain ⟨W, hW⟩ : ∃ W, ((w.alloc (.cells #[.bool m1, .slice a1 l1 c1, .slice a2 l2 c2] 125)).alloc (.cells #[.bool m2, .slice a3 l3 c3, .slice a4 l4 c4] 125)).alloc (.cells #[.bool false, .slice none 0 0, .slice none 0 0] 125) = W := ⟨_, rfl⟩
  have T := hid (Three.mk' hW)
  rw [hW]
  clear hW
  have hS := T.out.cells (Below.refl _ _).drew
  have B0 := hid (T.out.below.drew)
  have C0 := hid ((Below.refl W.heap.size W).drew)
  refine held_plain [0, 1] 3 (twoF w.heap.size m1 m2 (.slice a1 l1 c1) (.slice a2 l2 c2) (.slice a3 l3 c3) (.slice a4 l4 c4)) (by kernel_rfl) (by kernel_rfl) (by kernel_rfl) (by kernel_rfl) hS ?_
  iterate 2
    refine ⟨_, rfl, ?_⟩
    apply Exists.intro
    refine ⟨.inl ⟨by rfl, ?_⟩, ?_⟩
    · (intro W' hW'; obtain ⟨q1, q2, q3, q4, q5, q6⟩ := hW'; go_simp; try (with_reducible rfl))
    (dsimp only [Act.put]; try simp only [List.setIfInBounds_toArray, List.set_cons_zero, List.set_cons_succ])
  clear hS
  refine held_one (i := 2) (by kernel_rfl) (by rfl) (by rfl) ?_
  go_wp2_with fail
  refine (F1 _ _ (HQ'.out.call B0.out)).out.mono ?_; rintro e w1 ⟨⟨v1, rfl, hv1⟩, hb1⟩
  have B1 := hid (B0.out.trans (hb1.mono B0.out.size)); have C1 := hid (bnext C0.out hb1); have V1 := hid hv1
  clear hb1 hv1
  go_wp2_with fail
  refine ⟨T.out.cells C1.out, ?_⟩
  refine held_one (i := 3) (by kernel_rfl) (by rfl) (by rfl) ?_
  go_wp2_with fail
  refine (F2 _ _ _ (HP.out.call B1.out) V1.out).out.mono ?_; rintro e w3 ⟨⟨v3, rfl, hv3⟩, hb3⟩
  have B3 := hid (B1.out.trans (hb3.mono B1.out.size)); have C3 := hid (bnext C1.out hb3)
  clear hb3
  obtain ⟨N3, D3, rfl, hN3, hD3⟩ := hv3.ex
  obtain ⟨a5, c5, rfl, _⟩ := hN3.openI
  obtain ⟨a6, c6, rfl, _⟩ := hD3.openI
  obtain ⟨k5, hk5⟩ : ∃ k, (limbs Q.num.natAbs).length = k := ⟨_, rfl⟩
  obtain ⟨k6, hk6⟩ : ∃ k, (limbs Q.den).length = k := ⟨_, rfl⟩
  obtain ⟨mq, hmq⟩ : ∃ m, decide (Q.num < 0) = m := ⟨_, rfl⟩
  rw [hk5] at hN3 ⊢
  rw [hk6] at hD3 ⊢
  rw [hmq]
  have HN3 := hid hN3; have HD3 := hid hD3; have HMQ := hid hmq
  have Z := hid (T.out.b2.call C3.out)
  have t0 := Z.out.cell 0
  have t1 := Z.out.cell 1
  have t2 := Z.out.cell 2
  have t3 := Z.out.free 0
  have t4 := Z.out.free 1
  have t5 := Z.out.free 2
  simp at t0 t1 t2
  clear hv3 hN3 hD3 hk5 hk6 hmq
  go_wp2_with fail
  refine ⟨T.out.cells C3.out, ?_⟩
  refine held_one (i := 4) (by kernel_rfl) (by rfl) (by rfl) ?_
  go_wp2_with fail
  refine ⟨T.out.stored C3.out _ _ _, ?_⟩
  refine wpAnyH_done (by kernel_rfl) ?_ _
  simp only [Only]
  obtain ⟨s1, s2⟩ := set3 Z.out mq a5 a6 k5 c5 k6 c6
  have f0 := s2.cell 0
  have f1 := s2.cell 1
  have f2 := s2.cell 2
  simp at f0 f1 f2
  clear t0 t1 t2 t3 t4 t5
  go_wp2_with fail
  refine bodyPost_ret (v := .agg #[.bool mq, .slice a5 k5 c5, .slice a6 k6 c6]) (by simp [results, Tryz.results191, go_sem, f0, f1, f2]) rfl ⟨⟨_, rfl, ⟨.slice a5 k5 c5, .slice a6 k6 c6, by rw [HMQ.out], s1 _ _ _ HN3.out, s1 _ _ _ HD3.out⟩⟩, ?_⟩
  exact ((B3.out.setCell (by simp; omega) _).setCell (by simp; omega) _).setCell (by simp; omega) _
end Go.Proofs.YtccalhlhdiapiaaGreatDoor
namespace Go.Proofs.YtccalhlhdiapiaaGreatDoor
open Go.RowKit Go.Shelf
open Go.Lib (decDigits nDigits)
set_option linter.unusedVariables false
set_option linter.unusedSimpArgs false
set_option maxRecDepth 100000 in
set_option maxHeartbeats 1000000 in
theorem q_both (w : World) (s t : ByteArray) (F : Nat) (R : ByteArray) (x : Int) (hs : s.size ≤ 1000000) (ht : t.size ≤ 1000000) (hL : Lay w)
    (hen : ∀ args w, (callFunc F args).run Tryz.prog w = .ok (.enter F args) w)
    (hF : ∀ W v u, qE s = 0 → qE t = 0 → IsQ .u64 W v (vQ s) → IsQ .u64 W u (vQ t) → Lay W → Calls Tryz.prog F #[v, u] W fun e w' => e = .returned (.tuple #[.string R, .int .i64 x]) ∧ Below W.heap.size W w') :
    Calls Tryz.prog 134 #[.string s, .string t, .func (.func F) #[] #[]] w fun e w' => e = .returned (.tuple #[.string (tB R s t), .int .i64 (tE x s t)]) ∧ Below w.heap.size w w' := by
  have HF := hid hF
  have HL := hid hL
  have HEN := hid hen
  have HT := hid ht
  have b1 := hid ((Below.refl w.heap.size w).alloc (Nat.le_refl _) (.cells #[.string t] 22))
  obtain ⟨w1, hw1⟩ : ∃ w1, w.alloc (.cells #[.string t] 22) = w1 := ⟨_, rfl⟩
  obtain ⟨g1, hg1⟩ : ∃ g, w.heap.size = g := ⟨_, rfl⟩
  have X1 := hid (Blk.new w #[.string t] 22)
  rw [hw1] at b1
  rw [hw1, hg1] at X1
  have b2 := hid ((Below.refl w1.heap.size w1).alloc (Nat.le_refl _) (.cells #[.func (.func F) #[] #[]] 154))
  obtain ⟨w2, hw2⟩ : ∃ w2, w1.alloc (.cells #[.func (.func F) #[] #[]] 154) = w2 := ⟨_, rfl⟩
  have X2 := hid (Blk.new w1 #[.func (.func F) #[] #[]] 154)
  have X12 := hid (X1.out.call b2.out)
  have y2 := hid (bnext b1.out b2.out)
  have hg2 : w1.heap.size = g1 + 1 := by rw [← hw1, ← hg1]; simp
  rw [hw2] at b2 X12 y2
  rw [hw2, hg2] at X2
  have L2 := hid (HL.out.call y2.out)
  have W2 := hid (q_with w2 s 184 #[.pointer (some ⟨g1, 0, none⟩), .pointer (some ⟨g1 + 1, 0, none⟩)] (wB R t) (wE x t) hs L2.out (enters_of Tryz.func184 (by kernel_rfl) rfl)
    (fun W v hq hb hv hLW => by
      have hX1 := (X12.out.call hb).cell 0
      have hX2 := (X2.out.call hb).cell 0
      exact q_both1 W v t (vQ s) F g1 (g1 + 1) R x HT.out hv hLW HEN.out hX1 hX2 (fun W v u h0 h1 h2 h3 => HF.out W v u hq h0 h1 h2 h3)))
  have HW1 := hid hw1; have HW2 := hid hw2; have HG1 := hid hg1
  clear hF hL hen hs ht hw1 hw2 hg1 hg2 b1
  go_enter Tryz.func134, Tryz.ntmps134
  go_wp2_with fail
  have hw1 := HW1.out; have hw2 := HW2.out; have hg1 := HG1.out
  rw [hw1, hg1, hw2]
  refine W2.out.mono ?_; rintro e w3 ⟨rfl, hb3⟩
  have y3 := hid (bnext y2.out hb3)
  clear hb3 hw1 hw2 hg1
  go_wp2_with fail
  go_ret2
  exact ⟨rfl, by have := y3.out; exact this⟩
end Go.Proofs.YtccalhlhdiapiaaGreatDoor
namespace Go.Proofs.YtccalhlhdiapiaaGreatDoor
open Go.RowKit Go.Shelf
open Go.Lib (decDigits nDigits)
set_option linter.unusedVariables false
set_option linter.unusedSimpArgs false
/-- A rational number of few limbs. -/
structure Sml (K : Nat) (q : Rat) : Prop where
  n : (limbs q.num.natAbs).length ≤ K
  d : (limbs q.den).length ≤ K
theorem sml_vQ {s : ByteArray} (h : qE s = 0) : Sml 1000 (vQ s) := by
  obtain ⟨-, e2, e3⟩ := vQ_ok h
  obtain ⟨-, -, -, l1, l2, -⟩ := valid h
  exact ⟨by rw [e2]; exact Nat.le_trans (limbs_of_digits l1) (by omega), by rw [e3]; exact Nat.le_trans (limbs_of_digits l2) (by omega)⟩
theorem Sml.up {K L : Nat} {q : Rat} (h : Sml K q) (hl : K ≤ L) : Sml L q := ⟨Nat.le_trans h.n hl, Nat.le_trans h.d hl⟩
theorem sml_neg {K : Nat} {q : Rat} (h : Sml K q) : Sml K (-q) := ⟨by rw [Rat.neg_num, Int.natAbs_neg]; exact h.n, by rw [Rat.neg_den]; exact h.d⟩
theorem sml_mk {K : Nat} {z : Int} {d : Nat} (hd : 0 < d) (h1 : (limbs z.natAbs).length ≤ K) (h2 : (limbs d).length ≤ K) : Sml K (mkRat z d) := by
  refine ⟨?_, ?_⟩
  · rw [Rat.num_mkRat, if_neg (by omega)]
    refine Nat.le_trans (limbs_length_mono ?_) h1
    exact Int.natAbs_ediv_le_natAbs _ _
  · rw [Rat.den_mkRat, if_neg (by omega)]
    exact Nat.le_trans (limbs_length_mono (Nat.div_le_self _ _)) h2
theorem sml_mulK {K L : Nat} {p q : Rat} (hp : Sml K p) (hq : Sml L q) : Sml (K + L) (p * q) := by
  rw [← qmk_mul]
  unfold qmk
  exact sml_mk (Nat.mul_pos p.den_pos q.den_pos) (by rw [sgn_natAbs]; exact limbs_mul hp.n hq.n) (limbs_mul hp.d hq.d)
theorem sml_addK {K L : Nat} {p q : Rat} (hp : Sml K p) (hq : Sml L q) : Sml (K + L + (K + L) + 1) (p + q) := by
  rw [q_add]
  refine sml_mk (Nat.mul_pos p.den_pos q.den_pos) ?_ (Nat.le_trans (limbs_mul hp.d hq.d) (by omega))
  refine Nat.le_trans (limbs_length_mono (sgn_abs_le _ _ _ _)) ?_
  exact Nat.le_trans (len_add (limbs_mul hp.n hq.d) (limbs_mul hq.n hp.d)) (by omega)
theorem sml_mul {p q : Rat} (hp : Sml 1000 p) (hq : Sml 1000 q) : Sml 10000 (p * q) := (sml_mulK hp hq).up (by omega)
theorem sml_add {p q : Rat} (hp : Sml 1000 p) (hq : Sml 1000 q) : Sml 10000 (p + q) := (sml_addK hp hq).up (by omega)
theorem sml_sub {p q : Rat} (hp : Sml 1000 p) (hq : Sml 1000 q) : Sml 10000 (p - q) := by rw [Rat.sub_eq_add_neg]; exact sml_add hp (sml_neg hq)
theorem t2B {f : Rat → Rat → Rat} {s t : ByteArray} : tB (outB (f (vQ s) (vQ t))) s t = op2B f s t := by
  unfold tB wB op2B
  by_cases h1 : qE s = 0 <;> by_cases h2 : qE t = 0 <;> simp [h1, h2]
theorem t2E {f : Rat → Rat → Rat} {s t : ByteArray} : tE (outE (f (vQ s) (vQ t))) s t = op2E f s t := by
  unfold tE wE op2E
  by_cases h1 : qE s = 0 <;> by_cases h2 : qE t = 0 <;> simp [h1, h2]
set_option maxRecDepth 100000 in
set_option maxHeartbeats 1000000 in
theorem q_Mul1 (w : World) (v u : Value) (p q : Rat) (hp : IsQ .u64 w v p) (hq : IsQ .u64 w u q) (sp : Sml 1000 p) (sq : Sml 1000 q) (hL : Lay w) :
    Calls Tryz.prog 135 #[v, u] w fun e w' => e = .returned (.tuple #[.string (outB (p * q)), .int .i64 (outE (p * q))]) ∧ Below w.heap.size w w' := by
  have F1 := fun V v u hv hu => hid (f_Mul V v u p q hv hu (Nat.le_trans sp.n (by omega)) (Nat.le_trans sp.d (by omega)) (Nat.le_trans sq.n (by omega)) (Nat.le_trans sq.d (by omega)))
  have SQ := sml_mul sp sq
  have F2 := fun V v hv hV => hid (f_Num V v (p * q) hv (Nat.le_trans SQ.n (by omega)) (Nat.le_trans SQ.d (by omega)) hV)
  obtain ⟨Q, hQ⟩ : ∃ Q, p * q = Q := ⟨_, rfl⟩
  rw [hQ] at F1 F2 ⊢
  have HL := hid hL
  obtain ⟨N1, D1, rfl, hn1, hd1⟩ := hp.ex
  obtain ⟨N2, D2, rfl, hn2, hd2⟩ := hq.ex
  obtain ⟨a1, c1, rfl, _⟩ := hn1.openI
  obtain ⟨a2, c2, rfl, _⟩ := hd1.openI
  obtain ⟨a3, c3, rfl, _⟩ := hn2.openI
  obtain ⟨a4, c4, rfl, _⟩ := hd2.openI
  obtain ⟨k1, hk1⟩ : ∃ k, (limbs p.num.natAbs).length = k := ⟨_, rfl⟩
  obtain ⟨k2, hk2⟩ : ∃ k, (limbs p.den).length = k := ⟨_, rfl⟩
  obtain ⟨k3, hk3⟩ : ∃ k, (limbs q.num.natAbs).length = k := ⟨_, rfl⟩
  obtain ⟨k4, hk4⟩ : ∃ k, (limbs q.den).length = k := ⟨_, rfl⟩
  obtain ⟨m1, hm1⟩ : ∃ m, decide (p.num < 0) = m := ⟨_, rfl⟩
  obtain ⟨m2, hm2⟩ : ∃ m, decide (q.num < 0) = m := ⟨_, rfl⟩
  rw [hk1, hk2, hm1] at hp ⊢
  rw [hk3, hk4, hm2] at hq ⊢
  have X1 := hid (Blk.new w #[.bool m1, .slice a1 k1 c1, .slice a2 k2 c2] 125)
  have b1 := hid ((Below.refl w.heap.size w).alloc (Nat.le_refl _) (.cells #[.bool m1, .slice a1 k1 c1, .slice a2 k2 c2] 125))
  have Y1 := hid (X1.out.alloc (.cells #[.bool m2, .slice a3 k3 c3, .slice a4 k4 c4] 125))
  have X2 := hid (Blk.new (w.alloc (.cells #[.bool m1, .slice a1 k1 c1, .slice a2 k2 c2] 125)) #[.bool m2, .slice a3 k3 c3, .slice a4 k4 c4] 125)
  have b2 := hid (b1.out.alloc b1.out.size (.cells #[.bool m2, .slice a3 k3 c3, .slice a4 k4 c4] 125))
  have P2 := hid (hp.call b2.out)
  have Q2 := hid (hq.call b2.out)
  have r0 := Y1.out.cell 0
  have r1 := Y1.out.cell 1
  have r2 := Y1.out.cell 2
  have s0 := X2.out.cell 0
  have s1 := X2.out.cell 1
  have s2 := X2.out.cell 2
  simp at r0 r1 r2 s0 s1 s2
  clear hk1 hk2 hk3 hk4 hm1 hm2 hn1 hn2 hd1 hd2 hp hq hL sp sq SQ hQ
  go_enter Tryz.func135, Tryz.ntmps135
  go_wp2_with fail
  refine (F1 _ _ _ P2.out Q2.out).out.mono ?_; rintro e w3 ⟨⟨v3, rfl, hv3⟩, hb3⟩
  have y3 := hid (bnext b2.out hb3)
  obtain ⟨N3, D3, rfl, hn3, hd3⟩ := hv3.ex
  obtain ⟨a5, c5, rfl, _⟩ := hn3.openI
  obtain ⟨a6, c6, rfl, _⟩ := hd3.openI
  obtain ⟨k5, hk5⟩ : ∃ k, (limbs Q.num.natAbs).length = k := ⟨_, rfl⟩
  obtain ⟨k6, hk6⟩ : ∃ k, (limbs Q.den).length = k := ⟨_, rfl⟩
  obtain ⟨m3, hm3⟩ : ∃ m, decide (Q.num < 0) = m := ⟨_, rfl⟩
  rw [hk5, hk6, hm3] at hv3 ⊢
  have V3 := hid hv3
  clear hb3 hv3 hn3 hd3 hk5 hk6 hm3
  go_wp2_with fail
  refine (F2 _ _ V3.out (HL.out.call y3.out)).out.mono ?_; rintro e w4 ⟨rfl, hb4⟩
  have y4 := hid (bnext y3.out hb4); clear hb4
  go_wp2_with fail
  go_ret2
  exact ⟨rfl, y4.out⟩
set_option maxRecDepth 100000 in
set_option maxHeartbeats 1000000 in
theorem q_Mul (w : World) (s t : ByteArray) (hs : s.size ≤ 1000000) (ht : t.size ≤ 1000000) (hL : Lay w) :
    Calls Tryz.prog 88 #[.string s, .string t] w fun e w' => e = .returned (.tuple #[.string (op2B (· * ·) s t), .int .i64 (op2E (· * ·) s t)]) ∧ Below w.heap.size w w' := by
  have H := hid (q_both w s t 135 (outB (vQ s * vQ t)) (outE (vQ s * vQ t)) hs ht hL (enters_of Tryz.func135 (by kernel_rfl) rfl)
    (fun W v u h1 h2 hv hu hLW => q_Mul1 W v u _ _ hv hu (sml_vQ h1) (sml_vQ h2) hLW))
  rw [t2B, t2E (f := (· * ·))] at H
  obtain ⟨B, hB⟩ : ∃ B, op2B (· * ·) s t = B := ⟨_, rfl⟩
  obtain ⟨E, hE⟩ : ∃ E, op2E (· * ·) s t = E := ⟨_, rfl⟩
  rw [hB, hE] at H ⊢
  clear hB hE hs ht hL
  go_enter Tryz.func88, Tryz.ntmps88
  go_wp2_with fail
  refine H.out.mono ?_; rintro e w1 ⟨rfl, hb1⟩
  have y1 := hid hb1; clear hb1
  go_wp2_with fail
  go_ret2
  exact ⟨rfl, y1.out⟩
set_option maxRecDepth 100000 in
set_option maxHeartbeats 1000000 in
theorem q_Add1 (w : World) (v u : Value) (p q : Rat) (hp : IsQ .u64 w v p) (hq : IsQ .u64 w u q) (sp : Sml 1000 p) (sq : Sml 1000 q) (hL : Lay w) :
    Calls Tryz.prog 141 #[v, u] w fun e w' => e = .returned (.tuple #[.string (outB (p + q)), .int .i64 (outE (p + q))]) ∧ Below w.heap.size w w' := by
  have F1 := fun V v u hv hu => hid (f_Add V v u p q hv hu (Nat.le_trans sp.n (by omega)) (Nat.le_trans sp.d (by omega)) (Nat.le_trans sq.n (by omega)) (Nat.le_trans sq.d (by omega)))
  have SQ := sml_add sp sq
  have F2 := fun V v hv hV => hid (f_Num V v (p + q) hv (Nat.le_trans SQ.n (by omega)) (Nat.le_trans SQ.d (by omega)) hV)
  obtain ⟨Q, hQ⟩ : ∃ Q, p + q = Q := ⟨_, rfl⟩
  rw [hQ] at F1 F2 ⊢
  have HL := hid hL
  obtain ⟨N1, D1, rfl, hn1, hd1⟩ := hp.ex
  obtain ⟨N2, D2, rfl, hn2, hd2⟩ := hq.ex
  obtain ⟨a1, c1, rfl, _⟩ := hn1.openI
  obtain ⟨a2, c2, rfl, _⟩ := hd1.openI
  obtain ⟨a3, c3, rfl, _⟩ := hn2.openI
  obtain ⟨a4, c4, rfl, _⟩ := hd2.openI
  obtain ⟨k1, hk1⟩ : ∃ k, (limbs p.num.natAbs).length = k := ⟨_, rfl⟩
  obtain ⟨k2, hk2⟩ : ∃ k, (limbs p.den).length = k := ⟨_, rfl⟩
  obtain ⟨k3, hk3⟩ : ∃ k, (limbs q.num.natAbs).length = k := ⟨_, rfl⟩
  obtain ⟨k4, hk4⟩ : ∃ k, (limbs q.den).length = k := ⟨_, rfl⟩
  obtain ⟨m1, hm1⟩ : ∃ m, decide (p.num < 0) = m := ⟨_, rfl⟩
  obtain ⟨m2, hm2⟩ : ∃ m, decide (q.num < 0) = m := ⟨_, rfl⟩
  rw [hk1, hk2, hm1] at hp ⊢
  rw [hk3, hk4, hm2] at hq ⊢
  have X1 := hid (Blk.new w #[.bool m1, .slice a1 k1 c1, .slice a2 k2 c2] 125)
  have b1 := hid ((Below.refl w.heap.size w).alloc (Nat.le_refl _) (.cells #[.bool m1, .slice a1 k1 c1, .slice a2 k2 c2] 125))
  have Y1 := hid (X1.out.alloc (.cells #[.bool m2, .slice a3 k3 c3, .slice a4 k4 c4] 125))
  have X2 := hid (Blk.new (w.alloc (.cells #[.bool m1, .slice a1 k1 c1, .slice a2 k2 c2] 125)) #[.bool m2, .slice a3 k3 c3, .slice a4 k4 c4] 125)
  have b2 := hid (b1.out.alloc b1.out.size (.cells #[.bool m2, .slice a3 k3 c3, .slice a4 k4 c4] 125))
  have P2 := hid (hp.call b2.out)
  have Q2 := hid (hq.call b2.out)
  have r0 := Y1.out.cell 0
  have r1 := Y1.out.cell 1
  have r2 := Y1.out.cell 2
  have s0 := X2.out.cell 0
  have s1 := X2.out.cell 1
  have s2 := X2.out.cell 2
  simp at r0 r1 r2 s0 s1 s2
  clear hk1 hk2 hk3 hk4 hm1 hm2 hn1 hn2 hd1 hd2 hp hq hL sp sq SQ hQ
  go_enter Tryz.func141, Tryz.ntmps141
  go_wp2_with fail
  refine (F1 _ _ _ P2.out Q2.out).out.mono ?_; rintro e w3 ⟨⟨v3, rfl, hv3⟩, hb3⟩
  have y3 := hid (bnext b2.out hb3)
  obtain ⟨N3, D3, rfl, hn3, hd3⟩ := hv3.ex
  obtain ⟨a5, c5, rfl, _⟩ := hn3.openI
  obtain ⟨a6, c6, rfl, _⟩ := hd3.openI
  obtain ⟨k5, hk5⟩ : ∃ k, (limbs Q.num.natAbs).length = k := ⟨_, rfl⟩
  obtain ⟨k6, hk6⟩ : ∃ k, (limbs Q.den).length = k := ⟨_, rfl⟩
  obtain ⟨m3, hm3⟩ : ∃ m, decide (Q.num < 0) = m := ⟨_, rfl⟩
  rw [hk5, hk6, hm3] at hv3 ⊢
  have V3 := hid hv3
  clear hb3 hv3 hn3 hd3 hk5 hk6 hm3
  go_wp2_with fail
  refine (F2 _ _ V3.out (HL.out.call y3.out)).out.mono ?_; rintro e w4 ⟨rfl, hb4⟩
  have y4 := hid (bnext y3.out hb4); clear hb4
  go_wp2_with fail
  go_ret2
  exact ⟨rfl, y4.out⟩
set_option maxRecDepth 100000 in
set_option maxHeartbeats 1000000 in
theorem q_Add (w : World) (s t : ByteArray) (hs : s.size ≤ 1000000) (ht : t.size ≤ 1000000) (hL : Lay w) :
    Calls Tryz.prog 94 #[.string s, .string t] w fun e w' => e = .returned (.tuple #[.string (op2B (· + ·) s t), .int .i64 (op2E (· + ·) s t)]) ∧ Below w.heap.size w w' := by
  have H := hid (q_both w s t 141 (outB (vQ s + vQ t)) (outE (vQ s + vQ t)) hs ht hL (enters_of Tryz.func141 (by kernel_rfl) rfl)
    (fun W v u h1 h2 hv hu hLW => q_Add1 W v u _ _ hv hu (sml_vQ h1) (sml_vQ h2) hLW))
  rw [t2B, t2E (f := (· + ·))] at H
  obtain ⟨B, hB⟩ : ∃ B, op2B (· + ·) s t = B := ⟨_, rfl⟩
  obtain ⟨E, hE⟩ : ∃ E, op2E (· + ·) s t = E := ⟨_, rfl⟩
  rw [hB, hE] at H ⊢
  clear hB hE hs ht hL
  go_enter Tryz.func94, Tryz.ntmps94
  go_wp2_with fail
  refine H.out.mono ?_; rintro e w1 ⟨rfl, hb1⟩
  have y1 := hid hb1; clear hb1
  go_wp2_with fail
  go_ret2
  exact ⟨rfl, y1.out⟩
set_option maxRecDepth 100000 in
set_option maxHeartbeats 1000000 in
theorem q_Sub1 (w : World) (v u : Value) (p q : Rat) (hp : IsQ .u64 w v p) (hq : IsQ .u64 w u q) (sp : Sml 1000 p) (sq : Sml 1000 q) (hL : Lay w) :
    Calls Tryz.prog 137 #[v, u] w fun e w' => e = .returned (.tuple #[.string (outB (p - q)), .int .i64 (outE (p - q))]) ∧ Below w.heap.size w w' := by
  have F1 := fun V v u hv hu => hid (f_Sub V v u p q hv hu (Nat.le_trans sp.n (by omega)) (Nat.le_trans sp.d (by omega)) (Nat.le_trans sq.n (by omega)) (Nat.le_trans sq.d (by omega)))
  have SQ := sml_sub sp sq
  have F2 := fun V v hv hV => hid (f_Num V v (p - q) hv (Nat.le_trans SQ.n (by omega)) (Nat.le_trans SQ.d (by omega)) hV)
  obtain ⟨Q, hQ⟩ : ∃ Q, p - q = Q := ⟨_, rfl⟩
  rw [hQ] at F1 F2 ⊢
  have HL := hid hL
  obtain ⟨N1, D1, rfl, hn1, hd1⟩ := hp.ex
  obtain ⟨N2, D2, rfl, hn2, hd2⟩ := hq.ex
  obtain ⟨a1, c1, rfl, _⟩ := hn1.openI
  obtain ⟨a2, c2, rfl, _⟩ := hd1.openI
  obtain ⟨a3, c3, rfl, _⟩ := hn2.openI
  obtain ⟨a4, c4, rfl, _⟩ := hd2.openI
  obtain ⟨k1, hk1⟩ : ∃ k, (limbs p.num.natAbs).length = k := ⟨_, rfl⟩
  obtain ⟨k2, hk2⟩ : ∃ k, (limbs p.den).length = k := ⟨_, rfl⟩
  obtain ⟨k3, hk3⟩ : ∃ k, (limbs q.num.natAbs).length = k := ⟨_, rfl⟩
  obtain ⟨k4, hk4⟩ : ∃ k, (limbs q.den).length = k := ⟨_, rfl⟩
  obtain ⟨m1, hm1⟩ : ∃ m, decide (p.num < 0) = m := ⟨_, rfl⟩
  obtain ⟨m2, hm2⟩ : ∃ m, decide (q.num < 0) = m := ⟨_, rfl⟩
  rw [hk1, hk2, hm1] at hp ⊢
  rw [hk3, hk4, hm2] at hq ⊢
  have X1 := hid (Blk.new w #[.bool m1, .slice a1 k1 c1, .slice a2 k2 c2] 125)
  have b1 := hid ((Below.refl w.heap.size w).alloc (Nat.le_refl _) (.cells #[.bool m1, .slice a1 k1 c1, .slice a2 k2 c2] 125))
  have Y1 := hid (X1.out.alloc (.cells #[.bool m2, .slice a3 k3 c3, .slice a4 k4 c4] 125))
  have X2 := hid (Blk.new (w.alloc (.cells #[.bool m1, .slice a1 k1 c1, .slice a2 k2 c2] 125)) #[.bool m2, .slice a3 k3 c3, .slice a4 k4 c4] 125)
  have b2 := hid (b1.out.alloc b1.out.size (.cells #[.bool m2, .slice a3 k3 c3, .slice a4 k4 c4] 125))
  have P2 := hid (hp.call b2.out)
  have Q2 := hid (hq.call b2.out)
  have r0 := Y1.out.cell 0
  have r1 := Y1.out.cell 1
  have r2 := Y1.out.cell 2
  have s0 := X2.out.cell 0
  have s1 := X2.out.cell 1
  have s2 := X2.out.cell 2
  simp at r0 r1 r2 s0 s1 s2
  clear hk1 hk2 hk3 hk4 hm1 hm2 hn1 hn2 hd1 hd2 hp hq hL sp sq SQ hQ
  go_enter Tryz.func137, Tryz.ntmps137
  go_wp2_with fail
  refine (F1 _ _ _ P2.out Q2.out).out.mono ?_; rintro e w3 ⟨⟨v3, rfl, hv3⟩, hb3⟩
  have y3 := hid (bnext b2.out hb3)
  obtain ⟨N3, D3, rfl, hn3, hd3⟩ := hv3.ex
  obtain ⟨a5, c5, rfl, _⟩ := hn3.openI
  obtain ⟨a6, c6, rfl, _⟩ := hd3.openI
  obtain ⟨k5, hk5⟩ : ∃ k, (limbs Q.num.natAbs).length = k := ⟨_, rfl⟩
  obtain ⟨k6, hk6⟩ : ∃ k, (limbs Q.den).length = k := ⟨_, rfl⟩
  obtain ⟨m3, hm3⟩ : ∃ m, decide (Q.num < 0) = m := ⟨_, rfl⟩
  rw [hk5, hk6, hm3] at hv3 ⊢
  have V3 := hid hv3
  clear hb3 hv3 hn3 hd3 hk5 hk6 hm3
  go_wp2_with fail
  refine (F2 _ _ V3.out (HL.out.call y3.out)).out.mono ?_; rintro e w4 ⟨rfl, hb4⟩
  have y4 := hid (bnext y3.out hb4); clear hb4
  go_wp2_with fail
  go_ret2
  exact ⟨rfl, y4.out⟩
set_option maxRecDepth 100000 in
set_option maxHeartbeats 1000000 in
theorem q_Sub (w : World) (s t : ByteArray) (hs : s.size ≤ 1000000) (ht : t.size ≤ 1000000) (hL : Lay w) :
    Calls Tryz.prog 89 #[.string s, .string t] w fun e w' => e = .returned (.tuple #[.string (op2B (· - ·) s t), .int .i64 (op2E (· - ·) s t)]) ∧ Below w.heap.size w w' := by
  have H := hid (q_both w s t 137 (outB (vQ s - vQ t)) (outE (vQ s - vQ t)) hs ht hL (enters_of Tryz.func137 (by kernel_rfl) rfl)
    (fun W v u h1 h2 hv hu hLW => q_Sub1 W v u _ _ hv hu (sml_vQ h1) (sml_vQ h2) hLW))
  rw [t2B, t2E (f := (· - ·))] at H
  obtain ⟨B, hB⟩ : ∃ B, op2B (· - ·) s t = B := ⟨_, rfl⟩
  obtain ⟨E, hE⟩ : ∃ E, op2E (· - ·) s t = E := ⟨_, rfl⟩
  rw [hB, hE] at H ⊢
  clear hB hE hs ht hL
  go_enter Tryz.func89, Tryz.ntmps89
  go_wp2_with fail
  refine H.out.mono ?_; rintro e w1 ⟨rfl, hb1⟩
  have y1 := hid hb1; clear hb1
  go_wp2_with fail
  go_ret2
  exact ⟨rfl, y1.out⟩
end Go.Proofs.YtccalhlhdiapiaaGreatDoor
namespace Go.Proofs.YtccalhlhdiapiaaGreatDoor
open Go.RowKit Go.Shelf
open Go.Lib (decDigits nDigits)
set_option linter.unusedVariables false
set_option linter.unusedSimpArgs false
/-- A quotient's text and error. -/
def dvB (p q : Rat) : ByteArray := if q = 0 then ⟨#[]⟩ else outB (p / q)
def dvE (p q : Rat) : Int := if q = 0 then 6 else outE (p / q)
theorem sml_inv {K : Nat} {q : Rat} (h0 : q ≠ 0) (h : Sml K q) : Sml K q⁻¹ := ⟨by rw [(inv_num h0).2.1]; exact h.d, by rw [(inv_num h0).2.2]; exact h.n⟩
theorem sml_div {p q : Rat} (h0 : q ≠ 0) (hp : Sml 1000 p) (hq : Sml 1000 q) : Sml 10000 (p / q) := by rw [Rat.div_def]; exact sml_mul hp (sml_inv h0 hq)
theorem sg_ne {q : Rat} (h : q ≠ 0) : (sgQ q == 0) = false := by
  rw [beq_eq_false_iff_ne]
  have : q.num ≠ 0 := fun e => h (Rat.num_eq_zero.1 e)
  unfold sgQ
  repeat' split
  all_goals first | omega | (intro h; omega) | simp_all
set_option maxRecDepth 100000 in
set_option maxHeartbeats 1000000 in
theorem q_Div1_zero (w : World) (v u : Value) (p q : Rat) (hp : IsQ .u64 w v p) (hq : IsQ .u64 w u q) (sp : Sml 1000 p) (sq : Sml 1000 q) (h0 : q = 0) (hL : Lay w) :
    Calls Tryz.prog 190 #[v, u] w fun e w' => e = .returned (.tuple #[.string (⟨#[]⟩), .int .i64 (6)]) ∧ Below w.heap.size w w' := by
  have F0 := fun V u hu => hid (f_Sign V u q hu)
  have HL := hid hL
  obtain ⟨N1, D1, rfl, hn1, hd1⟩ := hp.ex
  obtain ⟨N2, D2, rfl, hn2, hd2⟩ := hq.ex
  obtain ⟨a1, c1, rfl, _⟩ := hn1.openI
  obtain ⟨a2, c2, rfl, _⟩ := hd1.openI
  obtain ⟨a3, c3, rfl, _⟩ := hn2.openI
  obtain ⟨a4, c4, rfl, _⟩ := hd2.openI
  obtain ⟨k1, hk1⟩ : ∃ k, (limbs p.num.natAbs).length = k := ⟨_, rfl⟩
  obtain ⟨k2, hk2⟩ : ∃ k, (limbs p.den).length = k := ⟨_, rfl⟩
  obtain ⟨k3, hk3⟩ : ∃ k, (limbs q.num.natAbs).length = k := ⟨_, rfl⟩
  obtain ⟨k4, hk4⟩ : ∃ k, (limbs q.den).length = k := ⟨_, rfl⟩
  obtain ⟨m1, hm1⟩ : ∃ m, decide (p.num < 0) = m := ⟨_, rfl⟩
  obtain ⟨m2, hm2⟩ : ∃ m, decide (q.num < 0) = m := ⟨_, rfl⟩
  rw [hk1, hk2, hm1] at hp ⊢
  rw [hk3, hk4, hm2] at hq ⊢
  have X1 := hid (Blk.new w #[.bool m1, .slice a1 k1 c1, .slice a2 k2 c2] 125)
  have b1 := hid ((Below.refl w.heap.size w).alloc (Nat.le_refl _) (.cells #[.bool m1, .slice a1 k1 c1, .slice a2 k2 c2] 125))
  have Y1 := hid (X1.out.alloc (.cells #[.bool m2, .slice a3 k3 c3, .slice a4 k4 c4] 125))
  have X2 := hid (Blk.new (w.alloc (.cells #[.bool m1, .slice a1 k1 c1, .slice a2 k2 c2] 125)) #[.bool m2, .slice a3 k3 c3, .slice a4 k4 c4] 125)
  have b2 := hid (b1.out.alloc b1.out.size (.cells #[.bool m2, .slice a3 k3 c3, .slice a4 k4 c4] 125))
  have P2 := hid (hp.call b2.out)
  have Q2 := hid (hq.call b2.out)
  have s0 := X2.out.cell 0
  have s1 := X2.out.cell 1
  have s2 := X2.out.cell 2
  simp at s0 s1 s2
  clear hk1 hk2 hk3 hk4 hm1 hm2 hn1 hn2 hd1 hd2 hp hq hL sp sq
  go_enter Tryz.func190, Tryz.ntmps190
  go_wp2_with fail
  refine (F0 _ _ Q2.out).out.mono ?_; rintro e w2 ⟨rfl, hb2⟩
  have y2 := hid (bnext b2.out hb2)
  clear hb2
  subst h0
  have q1 : (sgQ 0 == 0) = true := by rfl
  go_wp2_with fail
  go_ret2
  exact ⟨rfl, y2.out⟩
set_option maxRecDepth 100000 in
set_option maxHeartbeats 1000000 in
theorem q_Div1_some (w : World) (v u : Value) (p q : Rat) (hp : IsQ .u64 w v p) (hq : IsQ .u64 w u q) (sp : Sml 1000 p) (sq : Sml 1000 q) (h0 : q ≠ 0) (hL : Lay w) :
    Calls Tryz.prog 190 #[v, u] w fun e w' => e = .returned (.tuple #[.string (outB (p / q)), .int .i64 (outE (p / q))]) ∧ Below w.heap.size w w' := by
  have F0 := fun V u hu => hid (f_Sign V u q hu)
  have F1 := fun V v u hv hu => hid (f_Div V v u p q hv hu h0 (Nat.le_trans sp.n (by omega)) (Nat.le_trans sp.d (by omega)) (Nat.le_trans sq.n (by omega)) (Nat.le_trans sq.d (by omega)))
  have SQ := sml_div h0 sp sq
  have F2 := fun V v hv hV => hid (f_Num V v (p / q) hv (Nat.le_trans SQ.n (by omega)) (Nat.le_trans SQ.d (by omega)) hV)
  have q1 := sg_ne h0
  clear SQ h0
  obtain ⟨Q, hQ⟩ : ∃ Q, p / q = Q := ⟨_, rfl⟩
  rw [hQ] at F1 F2 ⊢
  clear hQ
  have HL := hid hL
  obtain ⟨N1, D1, rfl, hn1, hd1⟩ := hp.ex
  obtain ⟨N2, D2, rfl, hn2, hd2⟩ := hq.ex
  obtain ⟨a1, c1, rfl, _⟩ := hn1.openI
  obtain ⟨a2, c2, rfl, _⟩ := hd1.openI
  obtain ⟨a3, c3, rfl, _⟩ := hn2.openI
  obtain ⟨a4, c4, rfl, _⟩ := hd2.openI
  obtain ⟨k1, hk1⟩ : ∃ k, (limbs p.num.natAbs).length = k := ⟨_, rfl⟩
  obtain ⟨k2, hk2⟩ : ∃ k, (limbs p.den).length = k := ⟨_, rfl⟩
  obtain ⟨k3, hk3⟩ : ∃ k, (limbs q.num.natAbs).length = k := ⟨_, rfl⟩
  obtain ⟨k4, hk4⟩ : ∃ k, (limbs q.den).length = k := ⟨_, rfl⟩
  obtain ⟨m1, hm1⟩ : ∃ m, decide (p.num < 0) = m := ⟨_, rfl⟩
  obtain ⟨m2, hm2⟩ : ∃ m, decide (q.num < 0) = m := ⟨_, rfl⟩
  rw [hk1, hk2, hm1] at hp ⊢
  rw [hk3, hk4, hm2] at hq ⊢
  have X1 := hid (Blk.new w #[.bool m1, .slice a1 k1 c1, .slice a2 k2 c2] 125)
  have b1 := hid ((Below.refl w.heap.size w).alloc (Nat.le_refl _) (.cells #[.bool m1, .slice a1 k1 c1, .slice a2 k2 c2] 125))
  have Y1 := hid (X1.out.alloc (.cells #[.bool m2, .slice a3 k3 c3, .slice a4 k4 c4] 125))
  have X2 := hid (Blk.new (w.alloc (.cells #[.bool m1, .slice a1 k1 c1, .slice a2 k2 c2] 125)) #[.bool m2, .slice a3 k3 c3, .slice a4 k4 c4] 125)
  have b2 := hid (b1.out.alloc b1.out.size (.cells #[.bool m2, .slice a3 k3 c3, .slice a4 k4 c4] 125))
  have P2 := hid (hp.call b2.out)
  have Q2 := hid (hq.call b2.out)
  have s0 := X2.out.cell 0
  have s1 := X2.out.cell 1
  have s2 := X2.out.cell 2
  simp at s0 s1 s2
  clear hk1 hk2 hk3 hk4 hm1 hm2 hn1 hn2 hd1 hd2 hp hq hL sp sq
  go_enter Tryz.func190, Tryz.ntmps190
  go_wp2_with fail
  refine (F0 _ _ Q2.out).out.mono ?_; rintro e w2 ⟨rfl, hb2⟩
  have y2 := hid (bnext b2.out hb2)
  have Y1' := hid (Y1.out.call hb2); have X2' := hid (X2.out.call hb2); have P2' := hid (P2.out.call hb2); have Q2' := hid (Q2.out.call hb2)
  have r0 := Y1'.out.cell 0
  have r1 := Y1'.out.cell 1
  have r2 := Y1'.out.cell 2
  have s0 := X2'.out.cell 0
  have s1 := X2'.out.cell 1
  have s2 := X2'.out.cell 2
  simp at r0 r1 r2 s0 s1 s2
  clear hb2
  go_wp2_with fail
  refine (F1 _ _ _ P2'.out Q2'.out).out.mono ?_; rintro e w3 ⟨⟨v3, rfl, hv3⟩, hb3⟩
  have y3 := hid (bnext y2.out hb3)
  obtain ⟨N3, D3, rfl, hn3, hd3⟩ := hv3.ex
  obtain ⟨a5, c5, rfl, _⟩ := hn3.openI
  obtain ⟨a6, c6, rfl, _⟩ := hd3.openI
  obtain ⟨k5, hk5⟩ : ∃ k, (limbs Q.num.natAbs).length = k := ⟨_, rfl⟩
  obtain ⟨k6, hk6⟩ : ∃ k, (limbs Q.den).length = k := ⟨_, rfl⟩
  obtain ⟨m3, hm3⟩ : ∃ m, decide (Q.num < 0) = m := ⟨_, rfl⟩
  rw [hk5, hk6, hm3] at hv3 ⊢
  have V3 := hid hv3
  clear hb3 hv3 hn3 hd3 hk5 hk6 hm3
  go_wp2_with fail
  refine (F2 _ _ V3.out (HL.out.call y3.out)).out.mono ?_; rintro e w4 ⟨rfl, hb4⟩
  have y4 := hid (bnext y3.out hb4); clear hb4
  go_wp2_with fail
  go_ret2
  exact ⟨rfl, y4.out⟩
theorem q_Div1 (w : World) (v u : Value) (p q : Rat) (hp : IsQ .u64 w v p) (hq : IsQ .u64 w u q) (sp : Sml 1000 p) (sq : Sml 1000 q) (hL : Lay w) :
    Calls Tryz.prog 190 #[v, u] w fun e w' => e = .returned (.tuple #[.string (dvB p q), .int .i64 (dvE p q)]) ∧ Below w.heap.size w w' := by
  unfold dvB dvE
  by_cases h0 : q = 0
  · rw [if_pos h0, if_pos h0]; exact q_Div1_zero w v u p q hp hq sp sq h0 hL
  · rw [if_neg h0, if_neg h0]; exact q_Div1_some w v u p q hp hq sp sq h0 hL
set_option maxRecDepth 100000 in
set_option maxHeartbeats 1000000 in
theorem q_Div (w : World) (s t : ByteArray) (hs : s.size ≤ 1000000) (ht : t.size ≤ 1000000) (hL : Lay w) :
    Calls Tryz.prog 143 #[.string s, .string t] w fun e w' => e = .returned (.tuple #[.string (tB (dvB (vQ s) (vQ t)) s t), .int .i64 (tE (dvE (vQ s) (vQ t)) s t)]) ∧ Below w.heap.size w w' := by
  have H := hid (q_both w s t 190 (dvB (vQ s) (vQ t)) (dvE (vQ s) (vQ t)) hs ht hL (enters_of Tryz.func190 (by kernel_rfl) rfl)
    (fun W v u h1 h2 hv hu hLW => q_Div1 W v u _ _ hv hu (sml_vQ h1) (sml_vQ h2) hLW))
  obtain ⟨B, hB⟩ : ∃ B, tB (dvB (vQ s) (vQ t)) s t = B := ⟨_, rfl⟩
  obtain ⟨E, hE⟩ : ∃ E, tE (dvE (vQ s) (vQ t)) s t = E := ⟨_, rfl⟩
  rw [hB, hE] at H ⊢
  clear hB hE hs ht hL
  go_enter Tryz.func143, Tryz.ntmps143
  go_wp2_with fail
  refine H.out.mono ?_; rintro e w1 ⟨rfl, hb1⟩
  have y1 := hid hb1; clear hb1
  go_wp2_with fail
  go_ret2
  exact ⟨rfl, y1.out⟩
/-- The inverse's text and error. -/
def ivB (s : ByteArray) : ByteArray := tB (dvB (vQ ⟨#[49]⟩) (vQ s)) ⟨#[49]⟩ s
def ivE (s : ByteArray) : Int := tE (dvE (vQ ⟨#[49]⟩) (vQ s)) ⟨#[49]⟩ s
set_option maxRecDepth 100000 in
set_option maxHeartbeats 1000000 in
theorem q_Inv (w : World) (s : ByteArray) (hs : s.size ≤ 1000000) (hL : Lay w) :
    Calls Tryz.prog 95 #[.string s] w fun e w' => e = .returned (.tuple #[.string (ivB s), .int .i64 (ivE s)]) ∧ Below w.heap.size w w' := by
  have H := hid (q_Div w ⟨#[49]⟩ s (by decide) hs hL)
  unfold ivB ivE
  obtain ⟨B, hB⟩ : ∃ B, tB (dvB (vQ ⟨#[49]⟩) (vQ s)) ⟨#[49]⟩ s = B := ⟨_, rfl⟩
  obtain ⟨E, hE⟩ : ∃ E, tE (dvE (vQ ⟨#[49]⟩) (vQ s)) ⟨#[49]⟩ s = E := ⟨_, rfl⟩
  rw [hB, hE] at H ⊢
  clear hB hE hs hL
  go_enter Tryz.func95, Tryz.ntmps95
  go_wp2_with fail
  refine H.out.mono ?_; rintro e w1 ⟨rfl, hb1⟩
  have y1 := hid hb1; clear hb1
  go_wp2_with fail
  go_ret2
  exact ⟨rfl, y1.out⟩
end Go.Proofs.YtccalhlhdiapiaaGreatDoor
namespace Go.Proofs.YtccalhlhdiapiaaGreatDoor
open Go.RowKit Go.Shelf
open Go.Lib (decDigits nDigits)
set_option linter.unusedVariables false
set_option linter.unusedSimpArgs false
theorem sgn_pow (m : Bool) (a : Nat) : ∀ n : Nat, (sgn m a) ^ n = sgn (m && decide (n % 2 = 1)) (a ^ n)
  | 0 => by simp [sgn]
  | n + 1 => by
    rw [Int.pow_succ, sgn_pow m a n, Nat.pow_succ]
    rcases Nat.mod_two_eq_zero_or_one n with h | h
    · have e : (n + 1) % 2 = 1 := by omega
      cases m <;> simp [sgn, h, e, Int.mul_neg]
    · have e : (n + 1) % 2 = 0 := by omega
      cases m <;> simp [sgn, h, e, Int.mul_neg, Int.neg_mul]
theorem pow_parts (q : Rat) (n : Nat) : decide ((q ^ n).num < 0) = (decide (q.num < 0) && decide (n % 2 = 1)) ∧ (q ^ n).num.natAbs = q.num.natAbs ^ n ∧ (q ^ n).den = q.den ^ n := by
  have h1 : (q ^ n).num = sgn (decide (q.num < 0) && decide (n % 2 = 1)) (q.num.natAbs ^ n) := by
    rw [Rat.num_pow, ← sgn_pow, sgn_of]
  refine ⟨?_, by rw [h1, sgn_natAbs], Rat.den_pow q n⟩
  rw [h1]
  by_cases hq : q.num < 0
  · rw [sgn_neg (Nat.pow_pos (by omega))]
  · have : decide (q.num < 0) = false := by simpa using hq
    rw [this]
    simp [sgn]
    exact Int.natCast_nonneg _
theorem pow_over {q : Rat} {n : Nat} (h : 4000 < nDigits (q.num.natAbs ^ n) ∨ 4000 < nDigits (q.den ^ n)) : outB (q ^ n) = ⟨#[]⟩ ∧ outE (q ^ n) = 5 := by
  obtain ⟨-, h2, h3⟩ := pow_parts q n
  have : ovQ (q ^ n) := by unfold ovQ; rw [h2, h3]; exact h
  exact ⟨if_pos this, if_pos this⟩
set_option maxRecDepth 100000 in
set_option maxHeartbeats 1000000 in
theorem q_Pow1 (w : World) (v : Value) (q : Rat) (n g1 : Nat) (hp : IsQ .u64 w v q) (sp : Sml 1000 q) (hn : n ≤ 9223372036854775807) (hL : Lay w) (c1 : w.cell? ⟨g1, 0, none⟩ = some (.int .i64 (n : Nat))) :
    Calls Tryz.prog 130 #[v, .pointer (some ⟨g1, 0, none⟩)] w fun e w' => e = .returned (.tuple #[.string (outB (q ^ n)), .int .i64 (outE (q ^ n))]) ∧ Below w.heap.size w w' := by
  have F1 := fun V v hv hV => hid (l_Pow V v q.num.natAbs n hv (Nat.le_trans sp.n (by omega)) (by omega) hV)
  have F2 := fun V v hv hV => hid (l_Pow V v q.den n hv (Nat.le_trans sp.d (by omega)) (by omega) hV)
  obtain ⟨e1, e2, e3⟩ := pow_parts q n
  have HOV := hid (fun h => pow_over (q := q) (n := n) h)
  have F3 := fun V v hv hV (h1 : nDigits (q.num.natAbs ^ n) ≤ 4000) (h2 : nDigits (q.den ^ n) ≤ 4000) => hid (f_Num V v (q ^ n) hv (by rw [e2]; exact Nat.le_trans (limbs_of_digits h1) (by omega)) (by rw [e3]; exact Nat.le_trans (limbs_of_digits h2) (by omega)) hV)
  obtain ⟨B, hB⟩ : ∃ B, outB (q ^ n) = B := ⟨_, rfl⟩
  obtain ⟨E, hE⟩ : ∃ E, outE (q ^ n) = E := ⟨_, rfl⟩
  rw [hB, hE] at F3 HOV ⊢
  clear hB hE
  have HL := hid hL
  obtain ⟨N1, D1, rfl, hn1, hd1⟩ := hp.ex
  obtain ⟨a1, c1', rfl, _⟩ := hn1.openI
  obtain ⟨a2, c2', rfl, _⟩ := hd1.openI
  obtain ⟨k1, hk1⟩ : ∃ k, (limbs q.num.natAbs).length = k := ⟨_, rfl⟩
  obtain ⟨k2, hk2⟩ : ∃ k, (limbs q.den).length = k := ⟨_, rfl⟩
  obtain ⟨m1, hm1⟩ : ∃ m, decide (q.num < 0) = m := ⟨_, rfl⟩
  rw [hk1, hk2, hm1] at hp ⊢
  rw [hk1] at hn1
  rw [hk2] at hd1
  rw [hm1] at e1
  have X1 := hid (Blk.new w #[.bool m1, .slice a1 k1 c1', .slice a2 k2 c2'] 125)
  have b1 := hid ((Below.refl w.heap.size w).alloc (Nat.le_refl _) (.cells #[.bool m1, .slice a1 k1 c1', .slice a2 k2 c2'] 125))
  have N2 := hid (hn1.call b1.out)
  have D2 := hid (hd1.call b1.out)
  have r0 := X1.out.cell 0
  have r1 := X1.out.cell 1
  have r2 := X1.out.cell 2
  have C1 := (b1.out.cell (cell_lt c1)).trans c1
  simp at r0 r1 r2
  have q0 : decide ((n : Int) < 0) = false := by simp
  have w0 : IntKind.u64.wrap (n : Int) = (n : Int) := IntWalk.u64_in _ ⟨by omega, by omega⟩
  have E1 := hid e1; have E2 := hid e2; have E3 := hid e3; have HN := hid hn
  clear hk1 hk2 hm1 hn1 hd1 hp hL sp e1 e2 e3 c1 hn
  go_enter Tryz.func130, Tryz.ntmps130
  go_wp2_with fail
  refine (F1 _ _ N2.out (HL.out.call b1.out)).out.mono ?_; rintro e w3 ⟨hr3, hb3⟩
  have y3 := hid (bnext b1.out hb3); have X3 := hid (X1.out.call hb3); have C3 := (hb3.cell (cell_lt C1)).trans C1; have D3 := hid (D2.out.call hb3)
  clear hb3 r0 r1 r2 C1
  have r0 := X3.out.cell 0
  have r1 := X3.out.cell 1
  have r2 := X3.out.cell 2
  simp at r0 r1 r2
  rcases hr3 with ⟨l3, v3, rfl, hv3⟩ | ⟨l3, rfl⟩
  · obtain ⟨a3, c3, rfl, _⟩ := hv3.openI
    obtain ⟨k3, hk3⟩ : ∃ k, (limbs (q.num.natAbs ^ n)).length = k := ⟨_, rfl⟩
    rw [hk3] at hv3 ⊢
    have V3 := hid hv3; have L3 := hid l3
    clear hk3 hv3 l3
    go_wp2_with fail
    refine (F2 _ _ D3.out (HL.out.call y3.out)).out.mono ?_; rintro e w4 ⟨hr4, hb4⟩
    have y4 := hid (bnext y3.out hb4); have X4 := hid (X3.out.call hb4); have C4 := (hb4.cell (cell_lt C3)).trans C3; have V4 := hid (V3.out.call hb4)
    clear hb4 r0 r1 r2 C3
    have r0 := X4.out.cell 0
    have r1 := X4.out.cell 1
    have r2 := X4.out.cell 2
    simp at r0 r1 r2
    rcases hr4 with ⟨l4, v4, rfl, hv4⟩ | ⟨l4, rfl⟩
    · obtain ⟨a4, c4, rfl, _⟩ := hv4.openI
      obtain ⟨k4, hk4⟩ : ∃ k, (limbs (q.den ^ n)).length = k := ⟨_, rfl⟩
      rw [hk4] at hv4 ⊢
      have W4 := hid hv4; have L4 := hid l4
      clear hk4 hv4 l4
      have M := hid (show IsQ .u64 w4 (.agg #[.bool (m1 && decide (n % 2 = 1)), .slice a3 k3 c3, .slice a4 k4 c4]) (q ^ n) from ⟨_, _, by rw [E1.out], by rw [E2.out]; exact V4.out, by rw [E3.out]; exact W4.out⟩)
      obtain ⟨Q, hQ⟩ : ∃ Q, q ^ n = Q := ⟨_, rfl⟩
      rw [hQ] at F3 M
      clear hQ HOV F1 F2
      have F4 := F3 _ _ M.out (HL.out.call y4.out) L3.out L4.out
      cases m1
      · simp only [Bool.false_and] at F4
        go_wp2_with fail
        refine F4.out.mono ?_; rintro e w5 ⟨rfl, hb5⟩
        have y5 := hid (bnext y4.out hb5); clear hb5
        go_wp2_with fail
        go_ret2
        exact ⟨rfl, y5.out⟩
      · simp only [Bool.true_and] at F4
        have e9 : ((n : Int) % 2 == 1) = decide (n % 2 = 1) := by
          rw [Bool.eq_iff_iff, beq_iff_eq, decide_eq_true_eq]; omega
        rw [← e9] at F4
        clear e9
        go_wp2_with fail
        refine F4.out.mono ?_; rintro e w5 ⟨rfl, hb5⟩
        have y5 := hid (bnext y4.out hb5); clear hb5
        go_wp2_with fail
        go_ret2
        exact ⟨rfl, y5.out⟩
    · have e7 := hid (HOV.out (.inr l4))
      clear l4
      go_wp2_with fail
      go_ret2
      exact ⟨by rw [e7.out.1, e7.out.2]; rfl, y4.out⟩
  · have e7 := hid (HOV.out (.inl l3))
    clear l3
    go_wp2_with fail
    refine (F2 _ _ D3.out (HL.out.call y3.out)).out.mono ?_; rintro e w4 ⟨hr4, hb4⟩
    have y4 := hid (bnext y3.out hb4)
    rcases hr4 with ⟨l4, v4, rfl, hv4⟩ | ⟨l4, rfl⟩
    · obtain ⟨a4, c4, rfl, _⟩ := hv4.openI
      obtain ⟨k4, hk4⟩ : ∃ k, (limbs (q.den ^ n)).length = k := ⟨_, rfl⟩
      rw [hk4]
      clear hk4 hv4 l4 hb4
      go_wp2_with fail
      go_ret2
      exact ⟨by rw [e7.out.1, e7.out.2]; rfl, y4.out⟩
    · clear l4 hb4
      go_wp2_with fail
      go_ret2
      exact ⟨by rw [e7.out.1, e7.out.2]; rfl, y4.out⟩
/-- A power's text and error. -/
def pwB (n : Nat) (s : ByteArray) : ByteArray := op1B (· ^ n) s
def pwE (n : Nat) (s : ByteArray) : Int := op1E (· ^ n) s
set_option maxRecDepth 100000 in
set_option maxHeartbeats 1000000 in
theorem q_Pow (w : World) (s : ByteArray) (n : Nat) (hs : s.size ≤ 1000000) (hn : n ≤ 9223372036854775807) (hL : Lay w) :
    Calls Tryz.prog 87 #[.string s, .int .i64 (n : Nat)] w fun e w' => e = .returned (.tuple #[.string (pwB n s), .int .i64 (pwE n s)]) ∧ Below w.heap.size w w' := by
  have HL := hid hL
  have b1 := hid ((Below.refl w.heap.size w).alloc (Nat.le_refl _) (.cells #[.int .i64 (n : Nat)] 3))
  have X1 := hid (Blk.new w #[.int .i64 (n : Nat)] 3)
  obtain ⟨g1, hg1⟩ : ∃ g, w.heap.size = g := ⟨_, rfl⟩
  obtain ⟨w1, hw1⟩ : ∃ w1, w.alloc (.cells #[.int .i64 (n : Nat)] 3) = w1 := ⟨_, rfl⟩
  have L1 := hid (HL.out.call b1.out)
  have b1' := b1
  rw [hw1] at b1 X1 L1
  rw [hg1] at X1
  have W1 := hid (q_with w1 s 130 #[.pointer (some ⟨g1, 0, none⟩)] (outB (vQ s ^ n)) (outE (vQ s ^ n)) hs L1.out (enters_of Tryz.func130 (by kernel_rfl) rfl)
    (fun W v hq hb hv hLW => q_Pow1 W v (vQ s) n g1 hv (sml_vQ hq) hn hLW ((X1.out.call hb).cell 0)))
  have e1 : wB (outB (vQ s ^ n)) s = pwB n s := rfl
  have e2 : wE (outE (vQ s ^ n)) s = pwE n s := rfl
  rw [e1, e2] at W1
  obtain ⟨B, hB⟩ : ∃ B, pwB n s = B := ⟨_, rfl⟩
  obtain ⟨E, hE⟩ : ∃ E, pwE n s = E := ⟨_, rfl⟩
  rw [hB, hE] at W1 ⊢
  have HW := hid hw1; have HG := hid hg1
  clear hB hE hs hL hn e1 e2 hw1 hg1 b1'
  go_enter Tryz.func87, Tryz.ntmps87
  go_wp2_with fail
  have hw1 := HW.out; have hg1 := HG.out
  rw [hw1, hg1]
  refine W1.out.mono ?_; rintro e w2 ⟨rfl, hb2⟩
  have y2 := hid (bnext b1.out hb2)
  clear hb2 hw1 hg1
  go_wp2_with fail
  go_ret2
  exact ⟨rfl, y2.out⟩
end Go.Proofs.YtccalhlhdiapiaaGreatDoor
namespace Go.Proofs.YtccalhlhdiapiaaGreatDoor
open Go.RowKit
open Go.Lib (decDigits nDigits)
set_option linter.unusedVariables false
set_option linter.unusedSimpArgs false
theorem lv_half_tx : (⟨#[49, 47, 50]⟩ : ByteArray) = txB false 1 2 := by
  unfold txB; rw [decDigits_small (show 1 < 10 by omega), decDigits_small (show 2 < 10 by omega)]; rfl
theorem quart_tx : (⟨#[51, 47, 52]⟩ : ByteArray) = txB false 3 4 := by
  unfold txB; rw [decDigits_small (show 3 < 10 by omega), decDigits_small (show 4 < 10 by omega)]; rfl
theorem nd_small {n : Nat} (h : n < 10) : nDigits n ≤ 1 := nDigits_le (k := 1) (by omega) (by omega)
theorem cW_half : cW (txB false 1 2) = numB 1 := by apply ba_ext; rw [cW_tx, numB_list]; rfl
theorem qE_half : qE (txB false 1 2) = 0 := qE_tx (by decide) (by omega) (fun h => by cases h) (by have := nd_small (show 1 < 10 by omega); omega) (by have := nd_small (show 2 < 10 by omega); omega)
theorem gPE_half : gPE (txB false 1 2) = 0 := by
  have n1 := nd_small (show 1 < 10 by omega)
  have n2 := nd_small (show 2 < 10 by omega)
  have h1 : cmpN (cW (txB false 1 2)).data.toList (qD (txB false 1 2)).data.toList = -1 := by
    rw [cW_half, qD_tx, cmpN_num (by omega) (by omega)]; rfl
  unfold gPE
  rw [qE_half, if_neg (by simp), if_neg, if_neg]
  · rw [cW_half, qD_tx, numB_size, numB_size]; omega
  · rw [h1, iM_tx]; simp
def b1B : ByteArray := ⟨#[48, 48, 49, 48]⟩
def b2B : ByteArray := ⟨#[49, 48, 49]⟩
theorem chk_b1 : chkE b1B = 0 := by decide
theorem chk_b2 : chkE b2B = 0 := by decide
theorem b1L : b1B.data.toList = [48, 48, 49, 48] := rfl
theorem b2L : b2B.data.toList = [49, 48, 49] := rfl
/-- The even coin: each bit is one coin. -/
theorem toss_half (b : UInt8) (r : List UInt8) : toss 1 2 0 1 (b :: r) = (true, if b = 49 then 0 else 1, 1) := by
  rw [toss_next (by decide)]
  by_cases h : b = 49
  · rw [if_pos h, toss_done (by decide)]; rw [if_pos h]; rfl
  · rw [if_neg h, toss_done (by decide)]; rw [if_neg h]; rfl
theorem coin_half {l : List UInt8} {p : Nat} {b : UInt8} {r : List UInt8} (h : l.drop p = b :: r) : coinF 1 2 l p = (true, if b = 49 then 0 else 1, 1) := by
  rw [coinF_eq, h, toss_half]
theorem half_one {l : List UInt8} {m p n : Nat} {vs : List Nat} {b : UInt8} {r : List UInt8} (hm : 1 ≤ m) (hp : p ≤ l.length) (h : l.drop p = b :: r) (hb : b ≠ 49) : sr 1 2 l m p vs n = sr 1 2 l m (p + 1) vs (n + 1) := by
  have hc := coin_half h
  rw [if_neg hb] at hc
  rw [sr_one (by omega) hm hp (by rw [hc]) (by rw [hc]), hc]
theorem half_stop {l : List UInt8} {p n : Nat} {vs : List Nat} {b : UInt8} {r : List UInt8} (h : l.drop p = b :: r) (hb : b = 49) : sr 1 2 l 1 p vs n = some (vs ++ [n], p + 1) := by
  have hc := coin_half h
  rw [if_pos hb] at hc
  rw [sr_stop (by rw [hc]) (by rw [hc]; simp), hc]
theorem s1_b1 : s1 1 2 [48, 48, 49, 48] 0 0 = some (2, 3) := by
  unfold s1
  rw [half_one (by omega) (by simp) (b := 48) (r := [48, 49, 48]) rfl (by decide)]
  rw [half_one (by omega) (by simp) (b := 48) (r := [49, 48]) rfl (by decide)]
  rw [half_stop (b := 49) (r := [48]) rfl rfl]
  rfl
theorem s1_b2 : s1 1 2 [49, 48, 49] 0 0 = some (0, 1) := by
  unfold s1
  rw [half_stop (b := 49) (r := [48, 49]) rfl rfl]
  rfl
theorem s1_b3 : s1 1 2 [49, 48, 49] 1 0 = some (1, 3) := by
  unfold s1
  rw [half_one (by omega) (by simp) (b := 48) (r := [49]) rfl (by decide)]
  rw [half_stop (b := 49) (r := []) rfl rfl]
  rfl
theorem gE_b1 : gE (txB false 1 2) b1B = 0 := by unfold gE; rw [gPE_half, if_neg (by simp)]; exact chk_b1
theorem gE_b2 : gE (txB false 1 2) b2B = 0 := by unfold gE; rw [gPE_half, if_neg (by simp)]; exact chk_b2
theorem oT_b1 : oT (txB false 1 2) b1B = (true, 2, 3) := by
  rw [oT, if_pos gE_b1, cW_half, bN_num, bN_qD_tx, b1L, oneT, s1_b1]
  rfl
theorem wT_b2 : wT (txB false 1 2) b2B = (true, -1, 3) := by
  rw [wT, if_pos gE_b2, cW_half, bN_num, bN_qD_tx, b2L, twoT, s1_b2]
  dsimp only
  rw [s1_b3]
  rfl
def mL : List Nat := lateL true (tOut (oneJ 1 2) (zeroJ 1 2) 2 (2 + 1)).2 2
theorem mL_le : ∀ i, i ≤ 2 → mL.getD i 0 * 2 ^ (2 - i) ≤ rIn mL 2 i := by decide
theorem mL_r : rIn mL 2 (2 + 1) = 3 := by decide
theorem late_half : outB (qmk false (rIn mL 2 (2 + 1)) (2 ^ 2)) = txB false 3 4 := by
  rw [mL_r]
  obtain ⟨e1, e2, e3⟩ := qmk_ok (m := false) (n := 3) (d := 4) (by decide) (by omega) (fun h => by cases h)
  have n1 := nd_small (show 3 < 10 by omega)
  have n2 := nd_small (show 4 < 10 by omega)
  rw [show (2 ^ 2 : Nat) = 4 from rfl, outB, if_neg (by unfold ovQ; rw [e2, e3]; omega), txQ, e1, e2, e3]
end Go.Proofs.YtccalhlhdiapiaaGreatDoor
namespace Go.Proofs.YtccalhlhdiapiaaGreatDoor
open Go.RowKit
open Go.Lib (decDigits nDigits)
set_option linter.unusedVariables false
set_option linter.unusedSimpArgs false
/-- What a ratio is: a number from 0 on, below 1, of at most 1000 digits. -/
theorem ratio_is {a : ByteArray} (h : gPE a = 0) : qE a = 0 ∧ 0 ≤ (vQ a).num ∧ (vQ a).num.natAbs < (vQ a).den ∧ Dig 1000 (vQ a) := by
  have h2 := gPE_ok h
  unfold gPE at h
  split at h
  · rename_i he; exact absurd h he
  rename_i he
  have he' : qE a = 0 := Decidable.not_not.1 he
  split at h
  · cases h
  rename_i hm
  split at h
  · cases h
  rename_i hl
  obtain ⟨e1, e2, l1, l2, e3, e4⟩ := parts_ok he' (fun h => hm (.inl h)) hl
  unfold eN at l1 l2
  obtain ⟨g1, g2, g3⟩ := vQ_ok he'
  have hmf : iM (cW a) = false := by
    have : ¬ iM (cW a) = true := fun h => hm (.inl h)
    simpa using this
  rw [iD_plain hmf] at g2
  refine ⟨he', ?_, by rw [g2, g3]; exact h2.2, ⟨by rw [g2]; exact l1, by rw [g3]; exact l2⟩⟩
  rw [hmf] at g1
  have := of_decide_eq_false g1
  omega
/-- The factors. -/
def fNot (A : Rat) : Rat := 1 - A
def fUnder (A : Rat) : Rat := 1 / (1 + A)
def fShare (A : Rat) : Rat := fNot A * fUnder A
theorem one_plus {A : Rat} (h : 0 ≤ A.num) : 1 + A ≠ 0 := by
  intro e
  have h1 : (0 : Rat) ≤ A := Rat.num_nonneg.1 h
  have h2 : (0 : Rat) ≤ 1 := by decide
  have h3 : (1 : Rat) ≤ 1 + A := by
    have := Rat.add_le_add_left (c := 1).2 h1
    rwa [Rat.add_zero] at this
  rw [e] at h3
  exact absurd h3 (by decide)
theorem dig_not {A : Rat} (h : Dig 1000 A) : Dig 1002 (fNot A) := (dig_sub dig_one h).up (by omega)
theorem dig_under {A : Rat} (h : Dig 1000 A) (h0 : 0 ≤ A.num) : Dig 1003 (fUnder A) := by
  unfold fUnder
  rw [Rat.div_def]
  exact (dig_mul dig_one (dig_inv (one_plus h0) (dig_add dig_one h))).up (by omega)
theorem dig_share {A : Rat} (h : Dig 1000 A) (h0 : 0 ≤ A.num) : Dig 2005 (fShare A) := (dig_mul (dig_not h) (dig_under h h0)).up (by omega)
end Go.Proofs.YtccalhlhdiapiaaGreatDoor
namespace Go.Proofs.YtccalhlhdiapiaaGreatDoor
open Go.RowKit Go.Shelf
open Go.Lib (decDigits nDigits)
set_option linter.unusedVariables false
set_option linter.unusedSimpArgs false
theorem txQ_size {q : Rat} (h : ¬ ovQ q) : (txQ q).size ≤ 10000 := by
  unfold ovQ at h
  have h1 := list_size (txQ q)
  unfold txQ at h1 ⊢
  rw [txB_list] at h1
  rw [← h1]
  simp only [List.length_append, Lib.decDigits_length]
  have e1 : (if decide (q.num < 0) = true then [45] else ([] : List UInt8)).length ≤ 1 := by split <;> simp
  have e2 : (if q.den = 1 then [] else (47 : UInt8) :: decDigits q.den).length ≤ 4001 := by
    split
    · simp
    · simp only [List.length_cons, Lib.decDigits_length]; omega
  omega
theorem op2_fits {f : Rat → Rat → Rat} {p q : Rat} (hp : ¬ ovQ p) (hq : ¬ ovQ q) (h : ¬ ovQ (f p q)) : op2B f (txQ p) (txQ q) = txQ (f p q) ∧ op2E f (txQ p) (txQ q) = 0 := by
  have h1 := qE_txQ hp
  have h2 := qE_txQ hq
  refine ⟨?_, ?_⟩
  · rw [op2B, if_pos ⟨h1, h2⟩, vQ_txQ, vQ_txQ, outB_fits h]
  · rw [op2E, if_pos h1, if_pos h2, vQ_txQ, vQ_txQ, outE_fits h]
theorem inv_fits {q : Rat} (hq : ¬ ovQ q) (h0 : q ≠ 0) (h : ¬ ovQ (1 / q)) : ivB (txQ q) = txQ (1 / q) ∧ ivE (txQ q) = 0 := by
  have h1 := qE_txQ hq
  have h2 : qE ⟨#[49]⟩ = 0 := qE_t1
  have h3 : vQ ⟨#[49]⟩ = 1 := vQ_t1
  unfold ivB ivE tB tE wB wE dvB dvE
  rw [if_pos h2, if_pos h1, if_pos h2, if_pos h1, h3, vQ_txQ, if_neg h0, if_neg h0, outB_fits h, outE_fits h]
  exact ⟨rfl, rfl⟩
/-- What a factor does: from a ratio's text to a number's text. -/
def FacOk (F : Nat) (f : Rat → Rat) : Prop := ∀ (w : World) (a : ByteArray), a.size ≤ 100000 → gPE a = 0 → Lay w →
  Calls Tryz.prog F #[.string a] w fun e w' => e = .returned (.string (txQ (f (vQ a)))) ∧ Below w.heap.size w w'
theorem g_sure : FacOk 55 (fun _ => 1) := by
  intro w a ha hg hL
  have e1 : txQ 1 = ⟨#[49]⟩ := t1_tx.symm
  rw [e1]
  clear e1 ha hg hL
  go_enter Tryz.func55, Tryz.ntmps55
  go_wp2_with fail
  go_ret
  exact ⟨rfl, Below.refl _ _⟩
set_option maxRecDepth 100000 in
set_option maxHeartbeats 1000000 in
theorem g_not : FacOk 46 fNot := by
  intro w a ha hg hL
  obtain ⟨h1, h2, h3, h4⟩ := ratio_is hg
  have H := hid (q_Sub w t1 a (by decide) (by omega) hL)
  have ea := vQ_text h1
  have o := op2_fits (f := (· - ·)) fits_one (h4.fits (by omega) (by omega)) ((dig_not h4).fits (by omega) (by omega))
  rw [← t1_tx, ← ea] at o
  rw [o.1, o.2] at H
  obtain ⟨B, hB⟩ : ∃ B, txQ (fNot (vQ a)) = B := ⟨_, rfl⟩
  have hB' : txQ (1 - vQ a) = B := hB
  rw [hB'] at H
  rw [hB]
  unfold t1 at H
  clear ha hg hL h1 h2 h3 h4 ea o hB hB'
  go_enter Tryz.func46, Tryz.ntmps46
  go_wp2_with fail
  refine H.out.mono ?_; rintro e w1 ⟨rfl, hb1⟩
  have y1 := hid hb1; clear hb1
  go_wp2_with fail
  go_ret
  exact ⟨rfl, y1.out⟩
set_option maxRecDepth 100000 in
set_option maxHeartbeats 1000000 in
theorem g_under : FacOk 57 fUnder := by
  intro w a ha hg hL
  obtain ⟨h1, h2, h3, h4⟩ := ratio_is hg
  have H := hid (q_Add w t1 a (by decide) (by omega) hL)
  have ea := vQ_text h1
  have f1 : ¬ ovQ (1 + vQ a) := (dig_add dig_one h4).fits (by omega) (by omega)
  have o := op2_fits (f := (· + ·)) fits_one (h4.fits (by omega) (by omega)) f1
  rw [← t1_tx, ← ea] at o
  rw [o.1, o.2] at H
  have H2 := fun V hV => hid (q_Inv V (txQ (1 + vQ a)) (Nat.le_trans (txQ_size f1) (by omega)) hV)
  have o2 := inv_fits f1 (one_plus h2) ((dig_under h4 h2).fits (by omega) (by omega))
  rw [o2.1, o2.2] at H2
  obtain ⟨B, hB⟩ : ∃ B, txQ (fUnder (vQ a)) = B := ⟨_, rfl⟩
  have hB' : txQ (1 / (1 + vQ a)) = B := hB
  rw [hB'] at H2
  rw [hB]
  obtain ⟨C, hC⟩ : ∃ C, txQ (1 + vQ a) = C := ⟨_, rfl⟩
  rw [hC] at H2
  have hC' : txQ ((fun x y => x + y) 1 (vQ a)) = C := hC
  simp only at H hC'
  rw [hC] at H
  unfold t1 at H
  have HL := hid hL
  clear ha hg hL h1 h2 h3 h4 ea o o2 hB hB' f1 hC hC'
  go_enter Tryz.func57, Tryz.ntmps57
  go_wp2_with fail
  refine H.out.mono ?_; rintro e w1 ⟨rfl, hb1⟩
  have y1 := hid hb1; clear hb1
  go_wp2_with fail
  refine (H2 _ (HL.out.call y1.out)).out.mono ?_; rintro e w2 ⟨rfl, hb2⟩
  have y2 := hid (bnext y1.out hb2); clear hb2
  go_wp2_with fail
  go_ret
  exact ⟨rfl, y2.out⟩
set_option maxRecDepth 100000 in
set_option maxHeartbeats 1000000 in
theorem g_share : FacOk 48 fShare := by
  intro w a ha hg hL
  obtain ⟨h1, h2, h3, h4⟩ := ratio_is hg
  have fn : ¬ ovQ (fNot (vQ a)) := (dig_not h4).fits (by omega) (by omega)
  have fu : ¬ ovQ (fUnder (vQ a)) := (dig_under h4 h2).fits (by omega) (by omega)
  have F1 := fun V hV => hid (g_not V a ha hg hV)
  have F2 := fun V hV => hid (g_under V a ha hg hV)
  have H := fun V hV => hid (q_Mul V (txQ (fNot (vQ a))) (txQ (fUnder (vQ a))) (Nat.le_trans (txQ_size fn) (by omega)) (Nat.le_trans (txQ_size fu) (by omega)) hV)
  have o := op2_fits (f := (· * ·)) fn fu ((dig_share h4 h2).fits (by omega) (by omega))
  rw [o.1, o.2] at H
  obtain ⟨B, hB⟩ : ∃ B, txQ (fShare (vQ a)) = B := ⟨_, rfl⟩
  have hB' : txQ (fNot (vQ a) * fUnder (vQ a)) = B := hB
  simp only [hB'] at H
  rw [hB]
  obtain ⟨C, hC⟩ : ∃ C, txQ (fNot (vQ a)) = C := ⟨_, rfl⟩
  obtain ⟨D, hD⟩ : ∃ D, txQ (fUnder (vQ a)) = D := ⟨_, rfl⟩
  rw [hC] at H F1
  rw [hD] at H F2
  have HL := hid hL
  clear ha hg hL h1 h2 h3 h4 o hB hB' fn fu hC hD
  go_enter Tryz.func48, Tryz.ntmps48
  go_wp2_with fail
  refine (F1 _ HL.out).out.mono ?_; rintro e w1 ⟨rfl, hb1⟩
  have y1 := hid hb1; clear hb1
  go_wp2_with fail
  refine (F2 _ (HL.out.call y1.out)).out.mono ?_; rintro e w2 ⟨rfl, hb2⟩
  have y2 := hid (bnext y1.out hb2); clear hb2
  go_wp2_with fail
  refine (H _ (HL.out.call y2.out)).out.mono ?_; rintro e w3 ⟨rfl, hb3⟩
  have y3 := hid (bnext y2.out hb3); clear hb3
  go_wp2_with fail
  go_ret
  exact ⟨rfl, y3.out⟩
end Go.Proofs.YtccalhlhdiapiaaGreatDoor
namespace Go.Proofs.YtccalhlhdiapiaaGreatDoor
open Go.RowKit Go.Shelf
open Go.Lib (decDigits nDigits)
set_option linter.unusedVariables false
set_option linter.unusedSimpArgs false
/-- The text and the error of a factor times a power, or of what is left of 1. -/
def frB (f : Rat → Rat) (m : Nat) (rest : Bool) (A : Rat) : ByteArray :=
  if ovQ (A ^ m) then ⟨#[]⟩ else if ovQ (f A * A ^ m) then ⟨#[]⟩ else if rest = true then outB (1 - f A * A ^ m) else txQ (f A * A ^ m)
def frE (f : Rat → Rat) (m : Nat) (rest : Bool) (A : Rat) : Int :=
  if ovQ (A ^ m) then 5 else if ovQ (f A * A ^ m) then 5 else if rest = true then outE (1 - f A * A ^ m) else 0
theorem eql_nil (fn : Fn) (bs cs : Array Value) (W : World) : (binOp BinOp.eql 65 (.func fn bs cs) .nilFunc).run Tryz.prog W = .ok (.bool false) W := by
  kernel_rfl
theorem eql_nil2 (W : World) : (binOp BinOp.eql 65 .nilFunc .nilFunc).run Tryz.prog W = .ok (.bool true) W := by
  kernel_rfl
def ByOk (F : Nat) (k m : Int) (fac : Value) (rest : Bool) : Prop := ∀ w : World,
  Calls Tryz.prog F #[.int .i64 k] w fun e w' => e = .returned (.tuple #[.int .i64 m, fac, .bool rest]) ∧ w' = w
set_option maxRecDepth 100000 in
set_option maxHeartbeats 1000000 in
theorem fo_bad (w : World) (a : ByteArray) (k : Int) (g : Nat) (ha : a.size ≤ 100000) (hg : gPE a ≠ 0) (hL : Lay w) :
    Calls Tryz.prog 86 #[.string a, .int .i64 k, .pointer (some ⟨g, 0, none⟩)] w fun e w' => e = .returned (.tuple #[.string ⟨#[]⟩, .int .i64 (gPE a)]) ∧ Below w.heap.size w w' := by
  have HR := hid (g_ratio w a ha hL)
  rw [if_neg hg, if_neg hg] at HR
  obtain ⟨x, hx⟩ : ∃ x, gPE a = x := ⟨_, rfl⟩
  rw [hx] at HR hg ⊢
  have q0 : (x == 0) = false := by simpa using hg
  have q1 : (x != 0) = true := by simpa using hg
  clear ha hg hL hx
  go_enter Tryz.func86, Tryz.ntmps86
  go_wp2_with fail
  refine HR.out.mono ?_; rintro e w1 ⟨rfl, hb1⟩
  have y1 := hid hb1; clear hb1
  go_wp2_with fail
  go_ret2
  exact ⟨rfl, y1.out⟩
set_option maxRecDepth 100000 in
set_option maxHeartbeats 1000000 in
theorem fo_far (w : World) (a : ByteArray) (k : Int) (g : Nat) (ha : a.size ≤ 100000) (hg : gPE a = 0) (hk : k < -10000 ∨ 10000 < k) (hL : Lay w) :
    Calls Tryz.prog 86 #[.string a, .int .i64 k, .pointer (some ⟨g, 0, none⟩)] w fun e w' => e = .returned (.tuple #[.string ⟨#[]⟩, .int .i64 2]) ∧ Below w.heap.size w w' := by
  have HR := hid (g_ratio w a ha hL)
  rw [hg, if_pos rfl, if_pos rfl] at HR
  clear ha hg hL
  rcases Int.lt_or_le k (-10000) with h | h
  · have q0 : decide (k < -10000) = true := by simpa using h
    clear hk h
    go_enter Tryz.func86, Tryz.ntmps86
    go_wp2_with fail
    refine HR.out.mono ?_; rintro e w1 ⟨rfl, hb1⟩
    have y1 := hid hb1; clear hb1
    go_wp2_with fail
    go_ret2
    exact ⟨rfl, y1.out⟩
  · have q0 : decide (k < -10000) = false := by simp; omega
    have q1 : decide (10000 < k) = true := by simp; omega
    clear hk h
    go_enter Tryz.func86, Tryz.ntmps86
    go_wp2_with fail
    refine HR.out.mono ?_; rintro e w1 ⟨rfl, hb1⟩
    have y1 := hid hb1; clear hb1
    go_wp2_with fail
    go_ret2
    exact ⟨rfl, y1.out⟩
set_option maxRecDepth 100000 in
set_option maxHeartbeats 1000000 in
theorem fo_nil (w : World) (a : ByteArray) (k : Int) (m : Nat) (g F : Nat) (rest : Bool) (ha : a.size ≤ 100000) (hg : gPE a = 0) (hk : -10000 ≤ k ∧ k ≤ 10000) (hm : m ≤ 1) (hL : Lay w)
    (hen : ∀ args w, (callFunc F args).run Tryz.prog w = .ok (.enter F args) w) (hc : w.cell? ⟨g, 0, none⟩ = some (.func (.func F) #[] #[])) (hF : ByOk F k m .nilFunc rest) :
    Calls Tryz.prog 86 #[.string a, .int .i64 k, .pointer (some ⟨g, 0, none⟩)] w fun e w' => e = .returned (.tuple #[.string (numB m), .int .i64 0]) ∧ Below w.heap.size w w' := by
  have HR := hid (g_ratio w a ha hL)
  rw [hg, if_pos rfl, if_pos rfl] at HR
  have HF := hid hF
  have HL := hid hL
  have HC := hid hc
  have q0 : decide (k < -10000) = false := by simp; omega
  have q1 : decide (10000 < k) = false := by simp; omega
  have HI := fun V (hV : Lay V) => hid (Tryz.strconv_Itoa (m : Int) (by omega) (by omega) V hV.tab)
  have en : (⟨(Lib.itoa (m : Int)).toArray⟩ : ByteArray) = numB m := by
    unfold numB Lib.itoa
    rw [if_neg (by omega)]
    rfl
  rw [en] at HI
  clear ha hg hL hc hF hk hm en
  have hq2 := fun (W : World) => eql_nil2 W
  go_enter Tryz.func86, Tryz.ntmps86
  go_wp2_with fail
  refine HR.out.mono ?_; rintro e w1 ⟨rfl, hb1⟩
  have y1 := hid hb1
  have c1 := (hb1.cell (cell_lt HC.out)).trans HC.out
  clear hb1
  go_wp2_with fail
  refine (HF.out _).mono ?_; rintro e w2 ⟨rfl, rfl⟩
  go_wp2_with fail
  refine (HI _ (HL.out.call y1.out)).out.mono ?_; rintro e w3 ⟨rfl, kk, os, hw3⟩
  have b3 : Below w2.heap.size w2 w3 := by rw [hw3]; exact below_grow _ _ _
  have y3 := hid (bnext y1.out b3); clear b3 hw3
  go_wp2_with fail
  go_ret2
  exact ⟨rfl, y3.out⟩
end Go.Proofs.YtccalhlhdiapiaaGreatDoor
namespace Go.Proofs.YtccalhlhdiapiaaGreatDoor
open Go.RowKit Go.Shelf
open Go.Lib (decDigits nDigits)
set_option linter.unusedVariables false
set_option linter.unusedSimpArgs false
/-- The text and the error where the sub is not told: the steps of the program on texts. -/
def st1B (y : ByteArray) (m : Nat) (a : ByteArray) : ByteArray := if pwE m a = 0 then op2B (· * ·) y (pwB m a) else pwB m a
def st1E (y : ByteArray) (m : Nat) (a : ByteArray) : Int := if pwE m a = 0 then op2E (· * ·) y (pwB m a) else pwE m a
def st2B (y : ByteArray) (m : Nat) (rest : Bool) (a : ByteArray) : ByteArray := if st1E y m a = 0 ∧ rest = true then op2B (· - ·) t1 (st1B y m a) else st1B y m a
def st2E (y : ByteArray) (m : Nat) (rest : Bool) (a : ByteArray) : Int := if st1E y m a = 0 ∧ rest = true then op2E (· - ·) t1 (st1B y m a) else st1E y m a
theorem st_is {a : ByteArray} {f : Rat → Rat} {m : Nat} {rest : Bool} (ha : qE a = 0) (hf : ¬ ovQ (f (vQ a))) : st2B (txQ (f (vQ a))) m rest a = frB f m rest (vQ a) ∧ st2E (txQ (f (vQ a))) m rest a = frE f m rest (vQ a) := by
  have e1 : pwB m a = outB (vQ a ^ m) := if_pos ha
  have e2 : pwE m a = outE (vQ a ^ m) := if_pos ha
  unfold st2B st2E st1B st1E frB frE
  rw [e1, e2]
  by_cases hp : ovQ (vQ a ^ m)
  · have h1 : outE (vQ a ^ m) = 5 := if_pos hp
    have h2 : outB (vQ a ^ m) = ⟨#[]⟩ := if_pos hp
    simp [h1, h2, hp]
  · have h1 := outE_fits hp
    have h2 := outB_fits hp
    have q1 := qE_txQ hf
    have q2 := qE_txQ hp
    rw [h1, h2]
    have o1 : op2B (· * ·) (txQ (f (vQ a))) (txQ (vQ a ^ m)) = outB (f (vQ a) * vQ a ^ m) := by rw [op2B, if_pos ⟨q1, q2⟩, vQ_txQ, vQ_txQ]
    have o2 : op2E (· * ·) (txQ (f (vQ a))) (txQ (vQ a ^ m)) = outE (f (vQ a) * vQ a ^ m) := by rw [op2E, if_pos q1, if_pos q2, vQ_txQ, vQ_txQ]
    rw [if_pos rfl, if_pos rfl, o1, o2, if_neg hp, if_neg hp]
    by_cases hm : ovQ (f (vQ a) * vQ a ^ m)
    · have h3 : outE (f (vQ a) * vQ a ^ m) = 5 := if_pos hm
      have h4 : outB (f (vQ a) * vQ a ^ m) = ⟨#[]⟩ := if_pos hm
      simp [h3, h4, hm]
    · have h3 := outE_fits hm
      have h4 := outB_fits hm
      rw [h3, h4, if_neg hm, if_neg hm]
      cases rest
      · simp
      · have o3 : op2B (· - ·) t1 (txQ (f (vQ a) * vQ a ^ m)) = outB (1 - f (vQ a) * vQ a ^ m) := by rw [op2B, if_pos ⟨qE_t1, qE_txQ hm⟩, vQ_txQ, vQ_t1]
        have o4 : op2E (· - ·) t1 (txQ (f (vQ a) * vQ a ^ m)) = outE (1 - f (vQ a) * vQ a ^ m) := by rw [op2E, if_pos qE_t1, if_pos (qE_txQ hm), vQ_txQ, vQ_t1]
        simp [o3, o4]
theorem outB_sizeF (q : Rat) : (outB q).size ≤ 10000 := by
  unfold outB
  split
  · decide
  · rename_i h; exact txQ_size h
theorem pwB_size (m : Nat) (a : ByteArray) : (pwB m a).size ≤ 10000 := by
  unfold pwB op1B
  split
  · exact outB_sizeF _
  · decide
theorem op2B_size (f : Rat → Rat → Rat) (s t : ByteArray) : (op2B f s t).size ≤ 10000 := by
  unfold op2B
  split
  · exact outB_sizeF _
  · decide
set_option maxRecDepth 100000 in
set_option maxHeartbeats 2000000 in
theorem fo_pow0 (w : World) (a : ByteArray) (k : Int) (m : Nat) (g F G : Nat) (f : Rat → Rat) (rest : Bool) (ha : a.size ≤ 100000) (hg : gPE a = 0) (hk : -10000 ≤ k ∧ k ≤ 10000) (hm : m ≤ 100000) (hf : ¬ ovQ (f (vQ a))) (hL : Lay w)
    (hen : ∀ args w, (callFunc F args).run Tryz.prog w = .ok (.enter F args) w) (heng : ∀ args w, (callFunc G args).run Tryz.prog w = .ok (.enter G args) w)
    (hc : w.cell? ⟨g, 0, none⟩ = some (.func (.func F) #[] #[])) (hF : ByOk F k m (.func (.func G) #[] #[]) rest) (hG : FacOk G f) :
    Calls Tryz.prog 86 #[.string a, .int .i64 k, .pointer (some ⟨g, 0, none⟩)] w fun e w' => e = .returned (.tuple #[.string (st2B (txQ (f (vQ a))) m rest a), .int .i64 (st2E (txQ (f (vQ a))) m rest a)]) ∧ Below w.heap.size w w' := by
  have HR := hid (g_ratio w a ha hL)
  rw [hg, if_pos rfl, if_pos rfl] at HR
  have HF := hid hF
  have HG := fun V hV => hid (hG V a ha hg hV)
  have HP := fun V hV => hid (q_Pow V a m (by omega) (by omega) hV)
  obtain ⟨y, hy⟩ : ∃ y, txQ (f (vQ a)) = y := ⟨_, rfl⟩
  have hys : y.size ≤ 1000000 := by rw [← hy]; exact Nat.le_trans (txQ_size hf) (by omega)
  have HM := fun V hV => hid (q_Mul V y (pwB m a) hys (Nat.le_trans (pwB_size m a) (by omega)) hV)
  have HS := fun V hV => hid (q_Sub V t1 (op2B (· * ·) y (pwB m a)) (by decide) (Nat.le_trans (op2B_size _ _ _) (by omega)) hV)
  rw [hy] at HG ⊢
  unfold st2B st2E st1B st1E
  obtain ⟨x0, hx0⟩ : ∃ x, pwB m a = x := ⟨_, rfl⟩
  obtain ⟨e0, he0⟩ : ∃ x, pwE m a = x := ⟨_, rfl⟩
  rw [hx0, he0] at HP
  rw [hx0] at HM HS ⊢
  rw [he0]
  obtain ⟨x1, hx1⟩ : ∃ x, op2B (· * ·) y x0 = x := ⟨_, rfl⟩
  obtain ⟨e1, he1⟩ : ∃ x, op2E (· * ·) y x0 = x := ⟨_, rfl⟩
  rw [hx1, he1] at HM
  rw [hx1] at HS ⊢
  rw [he1]
  obtain ⟨x2, hx2⟩ : ∃ x, op2B (· - ·) t1 x1 = x := ⟨_, rfl⟩
  obtain ⟨e2, he2⟩ : ∃ x, op2E (· - ·) t1 x1 = x := ⟨_, rfl⟩
  rw [hx2, he2] at HS
  unfold t1 at HS
  have HL := hid hL
  have HC := hid hc
  have q0 : decide (k < -10000) = false := by simp; omega
  have q1 : decide (10000 < k) = false := by simp; omega
  have hq1 := fun (fn : Fn) (bs cs : Array Value) (W : World) => eql_nil fn bs cs W
  by_cases h0 : e0 = 0
  · subst h0
    rw [if_pos rfl, if_pos rfl, hx2, he2]
    by_cases h1 : e1 = 0
    · subst h1
      cases rest
      · rw [if_neg (by simp), if_neg (by simp)]
        clear ha hg hL hc hF hG hk hm hf hy hys hx0 he0 hx1 he1 hx2 he2
        go_enter Tryz.func86, Tryz.ntmps86
        go_wp2_with fail
        refine HR.out.mono ?_; rintro e w1 ⟨rfl, hb1⟩
        have y1 := hid hb1
        have c1 := (hb1.cell (cell_lt HC.out)).trans HC.out
        clear hb1
        go_wp2_with fail
        refine (HF.out _).mono ?_; rintro e w2 ⟨rfl, rfl⟩
        go_wp2_with fail
        refine (HP _ (HL.out.call y1.out)).out.mono ?_; rintro e w3 ⟨rfl, hb3⟩
        have y3 := hid (bnext y1.out hb3); clear hb3
        go_wp2_with fail
        refine (HG _ (HL.out.call y3.out)).out.mono ?_; rintro e w4 ⟨rfl, hb4⟩
        have y4 := hid (bnext y3.out hb4); clear hb4
        go_wp2_with fail
        refine (HM _ (HL.out.call y4.out)).out.mono ?_; rintro e w5 ⟨rfl, hb5⟩
        have y5 := hid (bnext y4.out hb5); clear hb5
        go_wp2_with fail
        go_ret2
        exact ⟨rfl, y5.out⟩
      · rw [if_pos ⟨rfl, rfl⟩, if_pos ⟨rfl, rfl⟩]
        clear ha hg hL hc hF hG hk hm hf hy hys hx0 he0 hx1 he1 hx2 he2
        go_enter Tryz.func86, Tryz.ntmps86
        go_wp2_with fail
        refine HR.out.mono ?_; rintro e w1 ⟨rfl, hb1⟩
        have y1 := hid hb1
        have c1 := (hb1.cell (cell_lt HC.out)).trans HC.out
        clear hb1
        go_wp2_with fail
        refine (HF.out _).mono ?_; rintro e w2 ⟨rfl, rfl⟩
        go_wp2_with fail
        refine (HP _ (HL.out.call y1.out)).out.mono ?_; rintro e w3 ⟨rfl, hb3⟩
        have y3 := hid (bnext y1.out hb3); clear hb3
        go_wp2_with fail
        refine (HG _ (HL.out.call y3.out)).out.mono ?_; rintro e w4 ⟨rfl, hb4⟩
        have y4 := hid (bnext y3.out hb4); clear hb4
        go_wp2_with fail
        refine (HM _ (HL.out.call y4.out)).out.mono ?_; rintro e w5 ⟨rfl, hb5⟩
        have y5 := hid (bnext y4.out hb5); clear hb5
        go_wp2_with fail
        refine (HS _ (HL.out.call y5.out)).out.mono ?_; rintro e w6 ⟨rfl, hb6⟩
        have y6 := hid (bnext y5.out hb6); clear hb6
        go_wp2_with fail
        go_ret2
        exact ⟨rfl, y6.out⟩
    · rw [if_neg (fun h => h1 h.1), if_neg (fun h => h1 h.1)]
      have q2 : (e1 == 0) = false := by simpa using h1
      clear ha hg hL hc hF hG hk hm hf hy hys hx0 he0 hx1 he1 hx2 he2 h1
      go_enter Tryz.func86, Tryz.ntmps86
      go_wp2_with fail
      refine HR.out.mono ?_; rintro e w1 ⟨rfl, hb1⟩
      have y1 := hid hb1
      have c1 := (hb1.cell (cell_lt HC.out)).trans HC.out
      clear hb1
      go_wp2_with fail
      refine (HF.out _).mono ?_; rintro e w2 ⟨rfl, rfl⟩
      go_wp2_with fail
      refine (HP _ (HL.out.call y1.out)).out.mono ?_; rintro e w3 ⟨rfl, hb3⟩
      have y3 := hid (bnext y1.out hb3); clear hb3
      go_wp2_with fail
      refine (HG _ (HL.out.call y3.out)).out.mono ?_; rintro e w4 ⟨rfl, hb4⟩
      have y4 := hid (bnext y3.out hb4); clear hb4
      go_wp2_with fail
      refine (HM _ (HL.out.call y4.out)).out.mono ?_; rintro e w5 ⟨rfl, hb5⟩
      have y5 := hid (bnext y4.out hb5); clear hb5
      go_wp2_with fail
      go_ret2
      exact ⟨rfl, y5.out⟩
  · rw [if_neg h0, if_neg h0]
    rw [if_neg (fun h => h0 h.1), if_neg (fun h => h0 h.1)]
    have q2 : (e0 == 0) = false := by simpa using h0
    clear ha hg hL hc hF hG hk hm hf hy hys hx0 he0 hx1 he1 hx2 he2 h0
    go_enter Tryz.func86, Tryz.ntmps86
    go_wp2_with fail
    refine HR.out.mono ?_; rintro e w1 ⟨rfl, hb1⟩
    have y1 := hid hb1
    have c1 := (hb1.cell (cell_lt HC.out)).trans HC.out
    clear hb1
    go_wp2_with fail
    refine (HF.out _).mono ?_; rintro e w2 ⟨rfl, rfl⟩
    go_wp2_with fail
    refine (HP _ (HL.out.call y1.out)).out.mono ?_; rintro e w3 ⟨rfl, hb3⟩
    have y3 := hid (bnext y1.out hb3); clear hb3
    go_wp2_with fail
    go_ret2
    exact ⟨rfl, y3.out⟩
theorem fo_pow (w : World) (a : ByteArray) (k : Int) (m : Nat) (g F G : Nat) (f : Rat → Rat) (rest : Bool) (ha : a.size ≤ 100000) (hg : gPE a = 0) (hk : -10000 ≤ k ∧ k ≤ 10000) (hm : m ≤ 100000) (hf : ¬ ovQ (f (vQ a))) (hL : Lay w)
    (hen : ∀ args w, (callFunc F args).run Tryz.prog w = .ok (.enter F args) w) (heng : ∀ args w, (callFunc G args).run Tryz.prog w = .ok (.enter G args) w)
    (hc : w.cell? ⟨g, 0, none⟩ = some (.func (.func F) #[] #[])) (hF : ByOk F k m (.func (.func G) #[] #[]) rest) (hG : FacOk G f) :
    Calls Tryz.prog 86 #[.string a, .int .i64 k, .pointer (some ⟨g, 0, none⟩)] w fun e w' => e = .returned (.tuple #[.string (frB f m rest (vQ a)), .int .i64 (frE f m rest (vQ a))]) ∧ Below w.heap.size w w' := by
  have H := fo_pow0 w a k m g F G f rest ha hg hk hm hf hL hen heng hc hF hG
  obtain ⟨e1, e2⟩ := st_is (m := m) (rest := rest) (ratio_is hg).1 hf
  rw [e1, e2] at H
  exact H
end Go.Proofs.YtccalhlhdiapiaaGreatDoor
namespace Go.Proofs.YtccalhlhdiapiaaGreatDoor
open Go.RowKit Go.Shelf
open Go.Lib (decDigits nDigits)
set_option linter.unusedVariables false
set_option linter.unusedSimpArgs false
theorem by_om_neg {k : Int} (h : k < 0) : ByOk 45 k (0 : Nat) .nilFunc false := by
  intro w
  have q0 : decide (k < 0) = true := by simpa using h
  clear h
  go_enter Tryz.func45, Tryz.ntmps45
  go_wp2_with fail
  refine bodyPost_ret (v := .tuple #[.int .i64 0, .nilFunc, .bool false]) (by simp [results, Tryz.results45, go_sem]) rfl ⟨rfl, rfl⟩
theorem by_om {k : Nat} : ByOk 45 k k (.func (.func 46) #[] #[]) false := by
  intro w
  have q0 : decide ((k : Int) < 0) = false := by simp
  go_enter Tryz.func45, Tryz.ntmps45
  go_wp2_with fail
  refine bodyPost_ret (v := .tuple #[.int .i64 k, .func (.func 46) #[] #[], .bool false]) (by simp [results, Tryz.results45, go_sem]) rfl ⟨rfl, rfl⟩
theorem by_ot_neg {k : Int} (h : k < 0) : ByOk 54 k (1 : Nat) .nilFunc false := by
  intro w
  have q0 : decide (k < 0) = true := by simpa using h
  clear h
  go_enter Tryz.func54, Tryz.ntmps54
  go_wp2_with fail
  refine bodyPost_ret (v := .tuple #[.int .i64 1, .nilFunc, .bool false]) (by simp [results, Tryz.results54, go_sem]) rfl ⟨rfl, rfl⟩
theorem by_ot {k : Nat} : ByOk 54 k k (.func (.func 55) #[] #[]) false := by
  intro w
  have q0 : decide ((k : Int) < 0) = false := by simp
  go_enter Tryz.func54, Tryz.ntmps54
  go_wp2_with fail
  refine bodyPost_ret (v := .tuple #[.int .i64 k, .func (.func 55) #[] #[], .bool false]) (by simp [results, Tryz.results54, go_sem]) rfl ⟨rfl, rfl⟩
theorem by_tt_low {k : Int} (h : k < 1) (h2 : -10000 ≤ k) : ByOk 56 k ((1 - k).toNat : Nat) (.func (.func 57) #[] #[]) true := by
  intro w
  have q0 : decide (k < 1) = true := by simpa using h
  obtain ⟨m, hm⟩ : ∃ m : Int, ((1 - k).toNat : Int) = m := ⟨_, rfl⟩
  have w0 : IntKind.i64.wrap (1 - k) = m := by rw [IntWalk.i64_in _ ⟨by omega, by omega⟩]; omega
  rw [hm]
  clear h h2 hm
  go_enter Tryz.func56, Tryz.ntmps56
  go_wp2_with fail
  refine bodyPost_ret (v := .tuple #[.int .i64 m, .func (.func 57) #[] #[], .bool true]) (by simp [results, Tryz.results56, go_sem]) rfl ⟨rfl, rfl⟩
theorem by_tt {k : Nat} (h : 1 ≤ k) : ByOk 56 k k (.func (.func 57) #[] #[]) false := by
  intro w
  have q0 : decide ((k : Int) < 1) = false := by simp; omega
  clear h
  go_enter Tryz.func56, Tryz.ntmps56
  go_wp2_with fail
  refine bodyPost_ret (v := .tuple #[.int .i64 k, .func (.func 57) #[] #[], .bool false]) (by simp [results, Tryz.results56, go_sem]) rfl ⟨rfl, rfl⟩
theorem by_tm {k : Int} (h : -10000 ≤ k) (h2 : k ≤ 10000) : ByOk 47 k (k.natAbs : Nat) (.func (.func 48) #[] #[]) false := by
  intro w
  obtain ⟨m, hm⟩ : ∃ m : Int, (k.natAbs : Int) = m := ⟨_, rfl⟩
  have w0 : IntKind.i64.wrap (-k) = -k := by rw [IntWalk.i64_in _ ⟨by omega, by omega⟩]
  have hmx := hid (show max k (-k) = m by omega)
  rw [hm]
  clear h h2 hm
  go_enter Tryz.func47, Tryz.ntmps47
  go_wp2_with fail
  refine bodyPost_ret (v := .tuple #[.int .i64 m, .func (.func 48) #[] #[], .bool false]) (by simp [results, Tryz.results47, go_sem]; exact hmx.out) rfl ⟨rfl, rfl⟩
set_option maxRecDepth 100000 in
set_option maxHeartbeats 1000000 in
theorem g_formula (w : World) (F : Nat) :
    Calls Tryz.prog 44 #[.func (.func F) #[] #[]] w fun e w' => e = .returned (.func (.func 86) #[] #[.pointer (some ⟨w.heap.size, 0, none⟩)]) ∧ w' = w.alloc (.cells #[.func (.func F) #[] #[]] 66) := by
  go_enter Tryz.func44, Tryz.ntmps44
  go_wp2_with fail
  go_ret
  exact ⟨rfl, rfl⟩
/-- What a mass or a tail gives: R, x where the ratio and the integer are right. -/
def foB (a : ByteArray) (k : Int) (R : ByteArray) : ByteArray := if gPE a ≠ 0 then ⟨#[]⟩ else if k < -10000 ∨ 10000 < k then ⟨#[]⟩ else R
def foE (a : ByteArray) (k : Int) (x : Int) : Int := if gPE a ≠ 0 then gPE a else if k < -10000 ∨ 10000 < k then 2 else x
theorem fo_all (w : World) (a : ByteArray) (k : Int) (F : Nat) (R : ByteArray) (x : Int) (ha : a.size ≤ 100000) (hL : Lay w)
    (hF : gPE a = 0 → -10000 ≤ k ∧ k ≤ 10000 → ∀ W g, Lay W → W.cell? ⟨g, 0, none⟩ = some (.func (.func F) #[] #[]) → Calls Tryz.prog 86 #[.string a, .int .i64 k, .pointer (some ⟨g, 0, none⟩)] W fun e w' => e = .returned (.tuple #[.string R, .int .i64 x]) ∧ Below W.heap.size W w') :
    ∀ g, w.cell? ⟨g, 0, none⟩ = some (.func (.func F) #[] #[]) → Calls Tryz.prog 86 #[.string a, .int .i64 k, .pointer (some ⟨g, 0, none⟩)] w fun e w' => e = .returned (.tuple #[.string (foB a k R), .int .i64 (foE a k x)]) ∧ Below w.heap.size w w' := by
  intro g hc
  unfold foB foE
  by_cases h1 : gPE a = 0
  · have n1 : ¬ (gPE a ≠ 0) := fun h => h h1
    rw [if_neg n1, if_neg n1]
    by_cases h2 : k < -10000 ∨ 10000 < k
    · rw [if_pos h2, if_pos h2]; exact fo_far w a k g ha h1 h2 hL
    · rw [if_neg h2, if_neg h2]; exact hF h1 (by omega) w g hL hc
  · rw [if_pos h1, if_pos h1]; exact fo_bad w a k g ha h1 hL
set_option maxRecDepth 100000 in
set_option maxHeartbeats 1000000 in
theorem g_OneMass0 (w : World) (a : ByteArray) (k : Int) (R : ByteArray) (x : Int) (hL : Lay w)
    (hF : ∀ W g, Lay W → W.cell? ⟨g, 0, none⟩ = some (.func (.func 45) #[] #[]) → Calls Tryz.prog 86 #[.string a, .int .i64 k, .pointer (some ⟨g, 0, none⟩)] W fun e w' => e = .returned (.tuple #[.string R, .int .i64 x]) ∧ Below W.heap.size W w') :
    Calls Tryz.prog 22 #[.string a, .int .i64 k] w fun e w' => e = .returned (.tuple #[.string R, .int .i64 x]) ∧ Below w.heap.size w w' := by
  have HF := hid hF
  have HL := hid hL
  have e65 : ∀ args w, (callFunc 86 args).run Tryz.prog w = .ok (.enter 86 args) w := enters_of Tryz.func86 (by kernel_rfl) rfl
  have b1 := hid ((Below.refl w.heap.size w).alloc (Nat.le_refl _) (.cells #[.func (.func 45) #[] #[]] 66))
  have X1 := hid (Blk.new w #[.func (.func 45) #[] #[]] 66)
  clear hF hL
  go_enter Tryz.func22, Tryz.ntmps22
  go_wp2_with fail
  refine (g_formula _ _).mono ?_; rintro e w1 ⟨rfl, rfl⟩
  go_wp2_with fail
  refine (HF.out _ _ (HL.out.call b1.out) (X1.out.cell 0)).mono ?_; rintro e w2 ⟨rfl, hb2⟩
  have y2 := hid (bnext b1.out hb2); clear hb2
  go_wp2_with fail
  go_ret2
  exact ⟨rfl, y2.out⟩
set_option maxRecDepth 100000 in
set_option maxHeartbeats 1000000 in
theorem g_TwoMass0 (w : World) (a : ByteArray) (k : Int) (R : ByteArray) (x : Int) (hL : Lay w)
    (hF : ∀ W g, Lay W → W.cell? ⟨g, 0, none⟩ = some (.func (.func 47) #[] #[]) → Calls Tryz.prog 86 #[.string a, .int .i64 k, .pointer (some ⟨g, 0, none⟩)] W fun e w' => e = .returned (.tuple #[.string R, .int .i64 x]) ∧ Below W.heap.size W w') :
    Calls Tryz.prog 23 #[.string a, .int .i64 k] w fun e w' => e = .returned (.tuple #[.string R, .int .i64 x]) ∧ Below w.heap.size w w' := by
  have HF := hid hF
  have HL := hid hL
  have e65 : ∀ args w, (callFunc 86 args).run Tryz.prog w = .ok (.enter 86 args) w := enters_of Tryz.func86 (by kernel_rfl) rfl
  have b1 := hid ((Below.refl w.heap.size w).alloc (Nat.le_refl _) (.cells #[.func (.func 47) #[] #[]] 66))
  have X1 := hid (Blk.new w #[.func (.func 47) #[] #[]] 66)
  clear hF hL
  go_enter Tryz.func23, Tryz.ntmps23
  go_wp2_with fail
  refine (g_formula _ _).mono ?_; rintro e w1 ⟨rfl, rfl⟩
  go_wp2_with fail
  refine (HF.out _ _ (HL.out.call b1.out) (X1.out.cell 0)).mono ?_; rintro e w2 ⟨rfl, hb2⟩
  have y2 := hid (bnext b1.out hb2); clear hb2
  go_wp2_with fail
  go_ret2
  exact ⟨rfl, y2.out⟩
set_option maxRecDepth 100000 in
set_option maxHeartbeats 1000000 in
theorem g_OneTail0 (w : World) (a : ByteArray) (k : Int) (R : ByteArray) (x : Int) (hL : Lay w)
    (hF : ∀ W g, Lay W → W.cell? ⟨g, 0, none⟩ = some (.func (.func 54) #[] #[]) → Calls Tryz.prog 86 #[.string a, .int .i64 k, .pointer (some ⟨g, 0, none⟩)] W fun e w' => e = .returned (.tuple #[.string R, .int .i64 x]) ∧ Below W.heap.size W w') :
    Calls Tryz.prog 28 #[.string a, .int .i64 k] w fun e w' => e = .returned (.tuple #[.string R, .int .i64 x]) ∧ Below w.heap.size w w' := by
  have HF := hid hF
  have HL := hid hL
  have e65 : ∀ args w, (callFunc 86 args).run Tryz.prog w = .ok (.enter 86 args) w := enters_of Tryz.func86 (by kernel_rfl) rfl
  have b1 := hid ((Below.refl w.heap.size w).alloc (Nat.le_refl _) (.cells #[.func (.func 54) #[] #[]] 66))
  have X1 := hid (Blk.new w #[.func (.func 54) #[] #[]] 66)
  clear hF hL
  go_enter Tryz.func28, Tryz.ntmps28
  go_wp2_with fail
  refine (g_formula _ _).mono ?_; rintro e w1 ⟨rfl, rfl⟩
  go_wp2_with fail
  refine (HF.out _ _ (HL.out.call b1.out) (X1.out.cell 0)).mono ?_; rintro e w2 ⟨rfl, hb2⟩
  have y2 := hid (bnext b1.out hb2); clear hb2
  go_wp2_with fail
  go_ret2
  exact ⟨rfl, y2.out⟩
set_option maxRecDepth 100000 in
set_option maxHeartbeats 1000000 in
theorem g_TwoTail0 (w : World) (a : ByteArray) (k : Int) (R : ByteArray) (x : Int) (hL : Lay w)
    (hF : ∀ W g, Lay W → W.cell? ⟨g, 0, none⟩ = some (.func (.func 56) #[] #[]) → Calls Tryz.prog 86 #[.string a, .int .i64 k, .pointer (some ⟨g, 0, none⟩)] W fun e w' => e = .returned (.tuple #[.string R, .int .i64 x]) ∧ Below W.heap.size W w') :
    Calls Tryz.prog 29 #[.string a, .int .i64 k] w fun e w' => e = .returned (.tuple #[.string R, .int .i64 x]) ∧ Below w.heap.size w w' := by
  have HF := hid hF
  have HL := hid hL
  have e65 : ∀ args w, (callFunc 86 args).run Tryz.prog w = .ok (.enter 86 args) w := enters_of Tryz.func86 (by kernel_rfl) rfl
  have b1 := hid ((Below.refl w.heap.size w).alloc (Nat.le_refl _) (.cells #[.func (.func 56) #[] #[]] 66))
  have X1 := hid (Blk.new w #[.func (.func 56) #[] #[]] 66)
  clear hF hL
  go_enter Tryz.func29, Tryz.ntmps29
  go_wp2_with fail
  refine (g_formula _ _).mono ?_; rintro e w1 ⟨rfl, rfl⟩
  go_wp2_with fail
  refine (HF.out _ _ (HL.out.call b1.out) (X1.out.cell 0)).mono ?_; rintro e w2 ⟨rfl, hb2⟩
  have y2 := hid (bnext b1.out hb2); clear hb2
  go_wp2_with fail
  go_ret2
  exact ⟨rfl, y2.out⟩
def omB (a : ByteArray) (k : Int) : ByteArray := foB a k (if k < 0 then numB 0 else frB fNot k.toNat false (vQ a))
def omE (a : ByteArray) (k : Int) : Int := foE a k (if k < 0 then 0 else frE fNot k.toNat false (vQ a))
def tmB (a : ByteArray) (k : Int) : ByteArray := foB a k (frB fShare k.natAbs false (vQ a))
def tmE (a : ByteArray) (k : Int) : Int := foE a k (frE fShare k.natAbs false (vQ a))
def otB (a : ByteArray) (k : Int) : ByteArray := foB a k (if k < 0 then numB 1 else frB (fun _ => 1) k.toNat false (vQ a))
def otE (a : ByteArray) (k : Int) : Int := foE a k (if k < 0 then 0 else frE (fun _ => 1) k.toNat false (vQ a))
def ttB (a : ByteArray) (k : Int) : ByteArray := foB a k (if k < 1 then frB fUnder (1 - k).toNat true (vQ a) else frB fUnder k.toNat false (vQ a))
def ttE (a : ByteArray) (k : Int) : Int := foE a k (if k < 1 then frE fUnder (1 - k).toNat true (vQ a) else frE fUnder k.toNat false (vQ a))
theorem e_om : ∀ args w, (callFunc 45 args).run Tryz.prog w = .ok (.enter 45 args) w := enters_of Tryz.func45 (by kernel_rfl) rfl
theorem e_tm : ∀ args w, (callFunc 47 args).run Tryz.prog w = .ok (.enter 47 args) w := enters_of Tryz.func47 (by kernel_rfl) rfl
theorem e_ot : ∀ args w, (callFunc 54 args).run Tryz.prog w = .ok (.enter 54 args) w := enters_of Tryz.func54 (by kernel_rfl) rfl
theorem e_tt : ∀ args w, (callFunc 56 args).run Tryz.prog w = .ok (.enter 56 args) w := enters_of Tryz.func56 (by kernel_rfl) rfl
theorem e_not : ∀ args w, (callFunc 46 args).run Tryz.prog w = .ok (.enter 46 args) w := enters_of Tryz.func46 (by kernel_rfl) rfl
theorem e_sure : ∀ args w, (callFunc 55 args).run Tryz.prog w = .ok (.enter 55 args) w := enters_of Tryz.func55 (by kernel_rfl) rfl
theorem e_under : ∀ args w, (callFunc 57 args).run Tryz.prog w = .ok (.enter 57 args) w := enters_of Tryz.func57 (by kernel_rfl) rfl
theorem e_share : ∀ args w, (callFunc 48 args).run Tryz.prog w = .ok (.enter 48 args) w := enters_of Tryz.func48 (by kernel_rfl) rfl
theorem g_OneMass (w : World) (a : ByteArray) (k : Int) (ha : a.size ≤ 100000) (hL : Lay w) :
    Calls Tryz.prog 22 #[.string a, .int .i64 k] w fun e w' => e = .returned (.tuple #[.string (omB a k), .int .i64 (omE a k)]) ∧ Below w.heap.size w w' :=
  g_OneMass0 w a k _ _ hL (fun W g hW hc => fo_all W a k _ _ _ ha hW (fun hg hk W g hW hc => by
    by_cases h : k < 0
    · rw [if_pos h, if_pos h]
      exact fo_nil W a k 0 g _ false ha hg hk (by omega) hW e_om hc (by_om_neg h)
    · rw [if_neg h, if_neg h]
      obtain ⟨n, rfl⟩ : ∃ n : Nat, k = n := ⟨k.toNat, by omega⟩
      exact fo_pow W a n n g _ _ fNot false ha hg hk (by omega) ((dig_not (ratio_is hg).2.2.2).fits (by omega) (by omega)) hW e_om e_not hc by_om g_not) g hc)
theorem g_OneTail (w : World) (a : ByteArray) (k : Int) (ha : a.size ≤ 100000) (hL : Lay w) :
    Calls Tryz.prog 28 #[.string a, .int .i64 k] w fun e w' => e = .returned (.tuple #[.string (otB a k), .int .i64 (otE a k)]) ∧ Below w.heap.size w w' :=
  g_OneTail0 w a k _ _ hL (fun W g hW hc => fo_all W a k _ _ _ ha hW (fun hg hk W g hW hc => by
    by_cases h : k < 0
    · rw [if_pos h, if_pos h]
      exact fo_nil W a k 1 g _ false ha hg hk (by omega) hW e_ot hc (by_ot_neg h)
    · rw [if_neg h, if_neg h]
      obtain ⟨n, rfl⟩ : ∃ n : Nat, k = n := ⟨k.toNat, by omega⟩
      exact fo_pow W a n n g _ _ (fun _ => 1) false ha hg hk (by omega) fits_one hW e_ot e_sure hc by_ot g_sure) g hc)
theorem g_TwoMass (w : World) (a : ByteArray) (k : Int) (ha : a.size ≤ 100000) (hL : Lay w) :
    Calls Tryz.prog 23 #[.string a, .int .i64 k] w fun e w' => e = .returned (.tuple #[.string (tmB a k), .int .i64 (tmE a k)]) ∧ Below w.heap.size w w' :=
  g_TwoMass0 w a k _ _ hL (fun W g hW hc => fo_all W a k _ _ _ ha hW (fun hg hk W g hW hc =>
    fo_pow W a k k.natAbs g _ _ fShare false ha hg hk (by omega) ((dig_share (ratio_is hg).2.2.2 (ratio_is hg).2.1).fits (by omega) (by omega)) hW e_tm e_share hc (by_tm hk.1 hk.2) g_share) g hc)
theorem g_TwoTail (w : World) (a : ByteArray) (k : Int) (ha : a.size ≤ 100000) (hL : Lay w) :
    Calls Tryz.prog 29 #[.string a, .int .i64 k] w fun e w' => e = .returned (.tuple #[.string (ttB a k), .int .i64 (ttE a k)]) ∧ Below w.heap.size w w' :=
  g_TwoTail0 w a k _ _ hL (fun W g hW hc => fo_all W a k _ _ _ ha hW (fun hg hk W g hW hc => by
    by_cases h : k < 1
    · rw [if_pos h, if_pos h]
      exact fo_pow W a k (1 - k).toNat g _ _ fUnder true ha hg hk (by omega) ((dig_under (ratio_is hg).2.2.2 (ratio_is hg).2.1).fits (by omega) (by omega)) hW e_tt e_under hc (by_tt_low h hk.1) g_under
    · rw [if_neg h, if_neg h]
      obtain ⟨n, rfl⟩ : ∃ n : Nat, k = n := ⟨k.toNat, by omega⟩
      exact fo_pow W a n n g _ _ fUnder false ha hg hk (by omega) ((dig_under (ratio_is hg).2.2.2 (ratio_is hg).2.1).fits (by omega) (by omega)) hW e_tt e_under hc (by_tt (by omega)) g_under) g hc)
end Go.Proofs.YtccalhlhdiapiaaGreatDoor
namespace Go.Proofs.YtccalhlhdiapiaaGreatDoor
open Go.RowKit Go.Shelf
open Go.Lib (decDigits nDigits)
set_option linter.unusedVariables false
set_option linter.unusedSimpArgs false
/-- A short text's number has few digits. -/
theorem lt_of_digits {n K : Nat} (h : nDigits n ≤ K) : n < 10 ^ K := Nat.lt_of_lt_of_le (Go.Lib.lt_pow_nDigits n) (Nat.pow_le_pow_right (by omega) h)
theorem dig_text {a : ByteArray} {K : Nat} (h : qE a = 0) (hs : a.size ≤ K) (hK : 1 ≤ K) : Dig K (vQ a) := by
  obtain ⟨h1, h2, h3, h4, h5, h6⟩ := valid h
  obtain ⟨-, e2, e3⟩ := vQ_ok h
  have hl := list_size a
  have ht : a.data.toList = (if iM (cW a) = true then [45] else []) ++ (decDigits (bN (iD (cW a))) ++ (if bN (qD a) = 1 then [] else 47 :: decDigits (bN (qD a)))) := by
    conv => lhs; rw [h6]
    exact txB_list _ _ _
  rw [ht] at hl
  simp only [List.length_append, Lib.decDigits_length] at hl
  refine ⟨by rw [e2]; exact lt_of_digits (by omega), ?_⟩
  rw [e3]
  by_cases hd : bN (qD a) = 1
  · rw [hd]
    exact Nat.lt_of_lt_of_le (show 1 < 10 ^ 1 by decide) (Nat.pow_le_pow_right (by omega) hK)
  · rw [if_neg hd] at hl
    simp only [List.length_cons, Lib.decDigits_length] at hl
    exact lt_of_digits (by omega)
/-- What a small ratio and a small integer give. -/
def SmR (a : ByteArray) (k : Int) : Prop := gPE a = 0 ∧ a.size ≤ 20 ∧ -41 ≤ k ∧ k ≤ 41
theorem SmR.dig {a : ByteArray} {k : Int} (h : SmR a k) : Dig 20 (vQ a) := dig_text (ratio_is h.1).1 h.2.1 (by omega)
theorem SmR.num {a : ByteArray} {k : Int} (h : SmR a k) : 0 ≤ (vQ a).num := (ratio_is h.1).2.1
end Go.Proofs.YtccalhlhdiapiaaGreatDoor
namespace Go.Proofs.YtccalhlhdiapiaaGreatDoor
open Go.RowKit
set_option linter.unusedVariables false
theorem gs_a : oT ⟨#[49, 47, 50]⟩ ⟨#[49]⟩ = (true, 0, 1) ∧ gE ⟨#[49, 47, 50]⟩ ⟨#[49]⟩ = 0 := by decide +kernel
theorem gs_b : oT ⟨#[49, 47, 50]⟩ ⟨#[48, 48]⟩ = (false, 0, 2) ∧ gE ⟨#[49, 47, 50]⟩ ⟨#[48, 48]⟩ = 0 := by decide +kernel
theorem gs_f : oT ⟨#[49]⟩ ⟨#[48]⟩ = (false, 0, 0) ∧ gE ⟨#[49]⟩ ⟨#[48]⟩ = 2 := by decide +kernel
theorem gs_g : oT ⟨#[49, 47, 50]⟩ ⟨#[120]⟩ = (false, 0, 0) ∧ gE ⟨#[49, 47, 50]⟩ ⟨#[120]⟩ = 3 := by decide +kernel
theorem gs_l : oT ⟨#[45, 49, 47, 50]⟩ ⟨#[48]⟩ = (false, 0, 0) ∧ gE ⟨#[45, 49, 47, 50]⟩ ⟨#[48]⟩ = 2 := by decide +kernel
theorem gs_c : wT ⟨#[49, 47, 50]⟩ ⟨#[48, 48, 49, 49]⟩ = (true, 2, 4) ∧ gE ⟨#[49, 47, 50]⟩ ⟨#[48, 48, 49, 49]⟩ = 0 := by decide +kernel
theorem gs_d : wT ⟨#[49, 47, 50]⟩ ⟨#[49]⟩ = (false, 0, 1) ∧ gE ⟨#[49, 47, 50]⟩ ⟨#[49]⟩ = 0 := by decide +kernel
theorem gs_e : wT ⟨#[48]⟩ ⟨#[]⟩ = (true, 0, 0) ∧ gE ⟨#[48]⟩ ⟨#[]⟩ = 0 := by decide +kernel
theorem gs_h : omB ⟨#[49, 47, 50]⟩ 10001 = ⟨#[]⟩ ∧ omE ⟨#[49, 47, 50]⟩ 10001 = 2 := by decide +kernel
theorem gs_k : tmB ⟨#[57, 47, 49, 48]⟩ 10000 = ⟨#[]⟩ ∧ tmE ⟨#[57, 47, 49, 48]⟩ 10000 = 5 := by decide +kernel
theorem gs_n0 : omB ⟨#[49, 47, 51]⟩ 2 = ⟨#[50, 47, 50, 55]⟩ ∧ omE ⟨#[49, 47, 51]⟩ 2 = 0 := by decide +kernel
theorem gs_n1 : tmB ⟨#[49, 47, 51]⟩ (-1) = ⟨#[49, 47, 54]⟩ ∧ tmE ⟨#[49, 47, 51]⟩ (-1) = 0 := by decide +kernel
theorem gs_n2 : otB ⟨#[49, 47, 51]⟩ 2 = ⟨#[49, 47, 57]⟩ ∧ otE ⟨#[49, 47, 51]⟩ 2 = 0 := by decide +kernel
theorem gs_n3 : ttB ⟨#[49, 47, 51]⟩ 1 = ⟨#[49, 47, 52]⟩ ∧ ttE ⟨#[49, 47, 51]⟩ 1 = 0 := by decide +kernel
theorem gs_n4 : ttB ⟨#[49, 47, 51]⟩ 0 = ⟨#[51, 47, 52]⟩ ∧ ttE ⟨#[49, 47, 51]⟩ 0 = 0 := by decide +kernel
theorem gs_n6 : omB ⟨#[48]⟩ 0 = ⟨#[49]⟩ ∧ omE ⟨#[48]⟩ 0 = 0 := by decide +kernel
theorem gs_n7 : tmB ⟨#[48]⟩ 10000 = ⟨#[48]⟩ ∧ tmE ⟨#[48]⟩ 10000 = 0 := by decide +kernel
theorem gs_n8 : otB ⟨#[49, 47, 50]⟩ (-10000) = ⟨#[49]⟩ ∧ otE ⟨#[49, 47, 50]⟩ (-10000) = 0 := by decide +kernel
theorem gs_n5 : glB ⟨#[49, 47, 50]⟩ 3 false = ⟨#[49, 47, 56]⟩ ∧ glE ⟨#[49, 47, 50]⟩ 3 256 = 0 := by decide +kernel
theorem gs_j : glB ⟨#[49, 47, 50]⟩ 257 false = ⟨#[]⟩ ∧ glE ⟨#[49, 47, 50]⟩ 257 256 = 2 := by decide +kernel
theorem gs_i : glR ⟨#[49, 47, 50]⟩ 33 true = [] ∧ glE ⟨#[49, 47, 50]⟩ 33 32 = 2 := by
  have e : glE ⟨#[49, 47, 50]⟩ 33 32 = 2 := by decide +kernel
  exact ⟨by unfold glR; rw [if_neg (by rw [e]; decide)], e⟩
theorem gs_o : glR ⟨#[49, 47, 50]⟩ 2 false = [(⟨#[48]⟩, ⟨#[49, 47, 50]⟩), (⟨#[49]⟩, ⟨#[49, 47, 52]⟩), (⟨#[108, 97, 116, 101]⟩, ⟨#[49, 47, 52]⟩)] ∧ glE ⟨#[49, 47, 50]⟩ 2 32 = 0 := by
  have e : glE ⟨#[49, 47, 50]⟩ 2 32 = 0 := by decide +kernel
  refine ⟨?_, e⟩
  unfold glR
  rw [if_pos e]
  have h : glP (gV (bN (cW ⟨#[49, 47, 50]⟩)) (bN (qD ⟨#[49, 47, 50]⟩)) false (2 : Int).toNat) (2 ^ (2 : Int).toNat) (2 : Int).toNat (gL (bN (cW ⟨#[49, 47, 50]⟩)) (bN (qD ⟨#[49, 47, 50]⟩)) false (2 : Int).toNat) = [(⟨#[48]⟩, ⟨#[49, 47, 50]⟩), (⟨#[49]⟩, ⟨#[49, 47, 52]⟩), (⟨#[108, 97, 116, 101]⟩, ⟨#[49, 47, 52]⟩)] := by decide +kernel
  rw [h]
  exact List.mergeSort_of_pairwise (by decide +kernel)
theorem gs_p : glR ⟨#[49, 47, 50]⟩ 2 true = [(⟨#[48]⟩, ⟨#[49, 47, 52]⟩), (⟨#[108, 97, 116, 101]⟩, ⟨#[51, 47, 52]⟩)] ∧ glE ⟨#[49, 47, 50]⟩ 2 32 = 0 := by
  have e : glE ⟨#[49, 47, 50]⟩ 2 32 = 0 := by decide +kernel
  refine ⟨?_, e⟩
  unfold glR
  rw [if_pos e]
  have h : glP (gV (bN (cW ⟨#[49, 47, 50]⟩)) (bN (qD ⟨#[49, 47, 50]⟩)) true (2 : Int).toNat) (2 ^ (2 : Int).toNat) (2 : Int).toNat (gL (bN (cW ⟨#[49, 47, 50]⟩)) (bN (qD ⟨#[49, 47, 50]⟩)) true (2 : Int).toNat) = [(⟨#[48]⟩, ⟨#[49, 47, 52]⟩), (⟨#[108, 97, 116, 101]⟩, ⟨#[51, 47, 52]⟩)] := by decide +kernel
  rw [h]
  exact List.mergeSort_of_pairwise (by decide +kernel)
end Go.Proofs.YtccalhlhdiapiaaGreatDoor
namespace Go.Proofs.YtccalhlhdiapiaaGreatDoor
open Go.RowKit Go.Shelf
open Go.Lib (decDigits nDigits)
set_option linter.unusedVariables false
set_option linter.unusedSimpArgs false
theorem late_12 (w : World) (hL : Lay w) : Calls Tryz.prog 10 #[.string ⟨#[49, 47, 50]⟩, .int .i64 2] w fun e w' => e = .returned (.tuple #[.string ⟨#[51, 47, 52]⟩, .int .i64 0]) ∧ Below w.heap.size w w' := by
  have H := g_TwoLate w (txB false 1 2) 2 1 2 (by rw [← lv_half_tx]; decide) gPE_half (by omega) (by rw [cW_half, bN_num]) (bN_qD_tx _ _ _) (by omega) hL mL_le
  have e := late_half
  unfold mL at e
  rw [e, ← lv_half_tx, ← quart_tx] at H
  exact H
theorem one_12 (w : World) (hL : Lay w) : Calls Tryz.prog 26 #[.string ⟨#[49, 47, 50]⟩, .string ⟨#[48, 48, 49, 48]⟩] w fun e w' => e = .returned (.tuple #[.agg #[.bool true, .int .i64 2, .int .i64 3], .int .i64 0]) ∧ Below w.heap.size w w' := by
  have H := g_One w (txB false 1 2) b1B (by rw [← lv_half_tx]; decide) (by decide) hL
  rw [oT_b1, gE_b1, ← lv_half_tx] at H
  exact H
theorem two_12 (w : World) (hL : Lay w) : Calls Tryz.prog 27 #[.string ⟨#[49, 47, 50]⟩, .string ⟨#[49, 48, 49]⟩] w fun e w' => e = .returned (.tuple #[.agg #[.bool true, .int .i64 (-1), .int .i64 3], .int .i64 0]) ∧ Below w.heap.size w w' := by
  have H := g_Two w (txB false 1 2) b2B (by rw [← lv_half_tx]; decide) (by decide) hL
  rw [wT_b2, gE_b2, ← lv_half_tx] at H
  exact H
set_option maxRecDepth 100000 in
set_option maxHeartbeats 1000000 in
theorem w_lives (w : World) (hL : Lay w) :
    Calls Tryz.prog 7 #[] w fun e w' => e = .returned (.bool true) ∧ Below w.heap.size w w' := by
  have H1 := fun V hV => hid (one_12 V hV)
  have H2 := fun V hV => hid (two_12 V hV)
  have H3 := fun V hV => hid (late_12 V hV)
  have b0 := hid (Below.refl w.heap.size w)
  have HL := hid hL
  clear hL
  go_enter Tryz.func7, Tryz.ntmps7
  go_wp2_with fail
  refine (H1 _ HL.out).out.mono ?_; rintro e w1 ⟨rfl, hb1⟩
  have b1 := hid hb1; clear hb1
  have X1 := hid (Blk.new w1 #[.bool true, .int .i64 2, .int .i64 3] 46)
  have B1 := hid (b1.out.alloc b1.out.size (.cells #[.bool true, .int .i64 2, .int .i64 3] 46))
  go_wp2_with fail
  refine (H2 _ (HL.out.call B1.out)).out.mono ?_; rintro e w2 ⟨rfl, hb2⟩
  have b2 := hid (bnext B1.out hb2); have x1 := hid (X1.out.call hb2); clear hb2
  have X2 := hid (Blk.new w2 #[.bool true, .int .i64 (-1), .int .i64 3] 46)
  have B2 := hid (b2.out.alloc b2.out.size (.cells #[.bool true, .int .i64 (-1), .int .i64 3] 46))
  have x1' := hid (x1.out.alloc (.cells #[.bool true, .int .i64 (-1), .int .i64 3] 46))
  go_wp2_with fail
  refine (H3 _ (HL.out.call B2.out)).out.mono ?_; rintro e w3 ⟨rfl, hb3⟩
  have b3 := hid (bnext B2.out hb3); have y1 := hid (x1'.out.call hb3); have y2 := hid (X2.out.call hb3); clear hb3
  have r0 := y1.out.cell 0
  have r1 := y1.out.cell 1
  have r2 := y1.out.cell 2
  have s0 := y2.out.cell 0
  have s1 := y2.out.cell 1
  have s2 := y2.out.cell 2
  simp at r0 r1 r2 s0 s1 s2
  go_wp2_with fail
  go_ret
  exact ⟨rfl, b3.out⟩
end Go.Proofs.YtccalhlhdiapiaaGreatDoor
namespace Go.Proofs.YtccalhlhdiapiaaGreatDoor
open Go.RowKit
/-- A row of ints. -/
def zs (l : List Int) : List Value := l.map (Value.int .i64)
@[simp] theorem zs_length (l : List Int) : (zs l).length = l.length := by simp [zs]
end Go.Proofs.YtccalhlhdiapiaaGreatDoor
namespace Go.Proofs.YtccalhlhdiapiaaGreatDoor
open Go.RowKit Go.Shelf
set_option linter.unusedVariables false
set_option linter.unusedSimpArgs false
theorem mrow_lit (w : World) (L : List (ByteArray × ByteArray)) (n : Nat) (hn : L.length = n) (hL : n ≤ 1000) : MRow (w.alloc (.cells (massC L).toArray 33)) (.slice (some ⟨w.heap.size, 0, none⟩) n n) L := by
  subst hn
  refine ⟨some ⟨w.heap.size, 0, none⟩, L.length, rfl, Nat.le_refl _, by omega, fun i x h => ⟨w.heap.size, 0, rfl, by simp, ?_, ?_⟩⟩
  · rw [Nat.zero_add, (Blk.new w _ _).cell, List.getElem?_toArray]; exact (massC_get h).1
  · rw [Nat.zero_add, (Blk.new w _ _).cell, List.getElem?_toArray]; exact (massC_get h).2
end Go.Proofs.YtccalhlhdiapiaaGreatDoor
namespace Go.Proofs.YtccalhlhdiapiaaGreatDoor
open Go.RowKit Go.Shelf
open Go.Lib (decDigits nDigits)
set_option linter.unusedVariables false
set_option linter.unusedSimpArgs false
set_option maxRecDepth 100000 in
set_option maxHeartbeats 2000000 in
theorem k_SameS (w : World) (v u : Value) (L M : List ByteArray) (hv : Row w v (strs L)) (hu : Row w u (strs M)) :
    Calls Tryz.prog 30 #[v, u] w fun e w' => e = .returned (.bool (decide (L = M))) ∧ Below w.heap.size w w' := by
  obtain ⟨a, c, rfl, h1, h2, h3⟩ := hv.openS
  obtain ⟨a', c', rfl, h1', h2', h3'⟩ := hu.openS
  obtain ⟨n, hn⟩ : ∃ n, L.length = n := ⟨_, rfl⟩
  obtain ⟨m, hm⟩ : ∃ n, M.length = n := ⟨_, rfl⟩
  rw [hn] at h1 ⊢
  rw [hm] at h1' ⊢
  have H3 := hid h3; have H3' := hid h3'; have HN := hid hn; have HM := hid hm
  clear hv hu h3 h3'
  by_cases hnm : n = m
  · subst hnm
    have q0 : ((n : Int) != (n : Int)) = false := by simp
    clear hn hm
    go_enter Tryz.func30, Tryz.ntmps30
    go_wp2_with fail
    go_loopw [5] (fun ii wr => ∃ i : Nat, ii = .int .i64 (i : Nat) ∧ i ≤ n ∧ Hid (∀ j, j < i → L[j]? = M[j]?) ∧ Hid (Below w.heap.size w wr)) (fun ii wr => n - (intOf ii).toNat)
    case atStart => exact ⟨0, rfl, Nat.zero_le _, fun j hj => absurd hj (by omega), Below.refl _ _⟩
    case round =>
      obtain ⟨i, rfl, hi, hI, hB⟩ := hrel
      by_cases hlt : i < n
      · obtain ⟨x, hx⟩ : ∃ x, L[i]? = some x := ⟨_, List.getElem?_eq_getElem (by rw [HN.out]; exact hlt)⟩
        obtain ⟨y, hy⟩ : ∃ x, M[i]? = some x := ⟨_, List.getElem?_eq_getElem (by rw [HM.out]; exact hlt)⟩
        obtain ⟨g, o, rfl, hg, k1⟩ := H3.out i x hx
        obtain ⟨g', o', rfl, hg', k1'⟩ := H3'.out i y hy
        have HX := hid hx; have HY := hid hy
        have m1 := (hB.out.cell (p := ⟨g, o + i, none⟩) hg).trans k1
        have m3 := (hB.out.cell (p := ⟨g', o' + i, none⟩) hg').trans k1'
        have b1 : (0 : Int) ≤ (i : Int) := by omega
        have b2 : (i : Int) < (n : Int) := by omega
        have wi : IntKind.i64.wrap ((i : Int) + 1) = (i : Int) + 1 := by rw [IntWalk.i64_in _ ⟨by omega, by omega⟩]
        clear k1 k1' hx hy hg hg'
        by_cases he1 : x = y
        · subst he1
          go_wp2_with fail
          refine held_plain [0, 1, 2, 3, 4, 5, 6, 7, 8] 0 (fun w' => w'.cell? ⟨g, o + i, none⟩ = some (.string x) ∧ w'.cell? ⟨g', o' + i, none⟩ = some (.string x)) (by kernel_rfl) (by kernel_rfl) (by kernel_rfl) (by kernel_rfl) ⟨m1, m3⟩ ?_
          iterate 9
            refine ⟨_, rfl, ?_⟩
            apply Exists.intro
            refine ⟨.inl ⟨by rfl, ?_⟩, ?_⟩
            · (intro W' hW'; obtain ⟨q1, q2⟩ := hW'; go_simp; try (with_reducible rfl))
            (dsimp only [Act.put]; try simp only [List.setIfInBounds_toArray, List.set_cons_zero, List.set_cons_succ])
          refine wpAnyH_done (by kernel_rfl) ?_ _
          simp only [Only]
          go_wp2_with fail
          go_roundw
          case rel => exact ⟨i + 1, rfl, by omega, fun j hj => by
            rcases Nat.lt_or_ge j i with h | h
            · exact hI.out j h
            · obtain rfl : j = i := by omega
              rw [HX.out, HY.out], hB.out.drew⟩
          case measure => simp [intOf] <;> omega
        · have n1 : (x.toList == y.toList) = false := by rw [beq_eq_false_iff_ne]; exact ne_tl he1
          have hne : decide (L = M) = false := by
            rw [decide_eq_false_iff_not]; rintro rfl
            have := HX.out.symm.trans HY.out
            simp only [Option.some.injEq] at this
            exact he1 this
          have HNE := hid hne
          clear hne he1
          go_wp2_with fail
          refine held_plain [0, 1, 2, 3, 4, 5, 6, 7, 8] 0 (fun w' => w'.cell? ⟨g, o + i, none⟩ = some (.string x) ∧ w'.cell? ⟨g', o' + i, none⟩ = some (.string y)) (by kernel_rfl) (by kernel_rfl) (by kernel_rfl) (by kernel_rfl) ⟨m1, m3⟩ ?_
          iterate 9
            refine ⟨_, rfl, ?_⟩
            apply Exists.intro
            refine ⟨.inl ⟨by rfl, ?_⟩, ?_⟩
            · (intro W' hW'; obtain ⟨q1, q2⟩ := hW'; go_simp; try (with_reducible rfl))
            (dsimp only [Act.put]; try simp only [List.setIfInBounds_toArray, List.set_cons_zero, List.set_cons_succ])
          refine wpAnyH_done (by kernel_rfl) ?_ _
          simp only [Only]
          go_wp2_with fail
          go_ret
          exact ⟨by rw [HNE.out]; rfl, hB.out.drew⟩
      · obtain rfl : i = n := by omega
        have hE : L = M := by
          apply List.ext_getElem?
          intro j
          by_cases hj : j < i
          · exact hI.out j hj
          · rw [List.getElem?_eq_none (by rw [HN.out]; omega), List.getElem?_eq_none (by rw [HM.out]; omega)]
        have HE := hid hE
        have q1 : decide ((i : Int) < (i : Int)) = false := by simp
        clear hE
        go_wp2_with fail
        go_ret
        exact ⟨by rw [decide_eq_true HE.out]; rfl, hB.out⟩
  · have hE : decide (L = M) = false := by rw [decide_eq_false_iff_not]; rintro rfl; exact hnm (hn.symm.trans hm)
    have HE := hid hE
    have q0 : ((n : Int) != (m : Int)) = true := by simp; omega
    clear hn hm hE
    go_enter Tryz.func30, Tryz.ntmps30
    go_wp2_with fail
    go_ret
    exact ⟨by rw [HE.out]; rfl, Below.refl _ _⟩
end Go.Proofs.YtccalhlhdiapiaaGreatDoor
namespace Go.Proofs.YtccalhlhdiapiaaGreatDoor
open Go.RowKit
theorem mk_nums (n : Nat) (hn : n ≤ 3000000) (W : World) : (Instr.makeSlice 50 (.int .i64 (n : Int)) (.int .i64 (n : Int))).run Tryz.prog W = .ok (.slice (some ⟨W.heap.size, 0, none⟩) n n) (W.alloc (.cells (madeCells #[.string ⟨#[]⟩] n) 22)) :=
  run_make_row' (P := Tryz.prog) 50 22 (.string ⟨#[]⟩) 16 Tryz.underlying50 (by kernel_rfl) rfl .i64 .i64 n (by omega) (by omega) W
end Go.Proofs.YtccalhlhdiapiaaGreatDoor
