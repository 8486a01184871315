/- Texts that the proof rests on, merged: Fr2, Fr1b, Fr4, Held2, FMu, So1, Pl2, KoO, So2, Zs, Tz, So3, Lasts, So4, QO, Pl3, Pn3, QC. -/
import Derived.Test.YtlimaehdmcnjaaaGreatDoorMa5
import Derived.RangeFuncBox
import Derived.Scope
import Derived.Deep.RegionHeld3
import Derived.WalkSmall
import Derived.Deep.AppendLies
import Derived.Deep.DeepCutAuto
import Derived.Maps.Own
import Derived.Maps.OwnIn
import Derived.Sort.CutIn
namespace Go.Proofs.YtlimaehdmcnjaaaGreatDoor
open Go.RowKit
set_option linter.unusedVariables false
set_option linter.unusedSimpArgs false
def twoF (b : Nat) (m1 m2 : Bool) (n1 d1 n2 d2 : Value) (w : World) : Prop :=
  w.cell? ⟨b, 0, none⟩ = some (.bool m1) ∧ w.cell? ⟨b, 1, none⟩ = some n1 ∧ w.cell? ⟨b, 2, none⟩ = some d1 ∧ w.cell? ⟨b + 1, 0, none⟩ = some (.bool m2) ∧ w.cell? ⟨b + 1, 1, none⟩ = some n2 ∧ w.cell? ⟨b + 1, 2, none⟩ = some d2
structure Three (w W : World) (m1 m2 : Bool) (n1 d1 n2 d2 : Value) : Prop where
  below : Below w.heap.size w W
  size : W.heap.size = w.heap.size + 3
  b0 : Blk W w.heap.size #[.bool m1, n1, d1] 57
  b1 : Blk W (w.heap.size + 1) #[.bool m2, n2, d2] 57
  b2 : Blk W (w.heap.size + 1 + 1) #[.bool false, .slice none 0 0, .slice none 0 0] 57
theorem Three.mk' {w W : World} {m1 m2 : Bool} {n1 d1 n2 d2 : Value} (h : ((w.alloc (.cells #[.bool m1, n1, d1] 57)).alloc (.cells #[.bool m2, n2, d2] 57)).alloc (.cells #[.bool false, .slice none 0 0, .slice none 0 0] 57) = W) : Three w W m1 m2 n1 d1 n2 d2 := by
  subst h
  exact ⟨(((Below.refl _ _).alloc (Nat.le_refl _) _).alloc (by simp) _).alloc (by simp; omega) _, by simp, ((Blk.new w _ _).alloc _).alloc _, (Blk.made (w.alloc _) _ _ (by simp)).alloc _, Blk.made ((w.alloc _).alloc _) _ _ (by simp)⟩
theorem Three.cells {w W V : World} {m1 m2 : Bool} {n1 d1 n2 d2 : Value} (h : Three w W m1 m2 n1 d1 n2 d2) (hb : Below W.heap.size W V) : twoF w.heap.size m1 m2 n1 d1 n2 d2 V :=
  have y0 := h.b0.call hb
  have y1 := h.b1.call hb
  ⟨y0.cell 0, y0.cell 1, y0.cell 2, y1.cell 0, y1.cell 1, y1.cell 2⟩
theorem Three.stored {w W V : World} {m1 m2 : Bool} {n1 d1 n2 d2 : Value} (h : Three w W m1 m2 n1 d1 n2 d2) (hb : Below W.heap.size W V) (x y z : Value) : twoF w.heap.size m1 m2 n1 d1 n2 d2 (((V.setCell ⟨w.heap.size + 1 + 1, 0, none⟩ x).setCell ⟨w.heap.size + 1 + 1, 1, none⟩ y).setCell ⟨w.heap.size + 1 + 1, 2, none⟩ z) :=
  have y0 := ((((h.b0.call hb).other (a := ⟨w.heap.size + 1 + 1, 0, none⟩) (by simp; omega) x).other (a := ⟨w.heap.size + 1 + 1, 1, none⟩) (by simp; omega) y).other (a := ⟨w.heap.size + 1 + 1, 2, none⟩) (by simp; omega) z)
  have y1 := ((((h.b1.call hb).other (a := ⟨w.heap.size + 1 + 1, 0, none⟩) (by simp) x).other (a := ⟨w.heap.size + 1 + 1, 1, none⟩) (by simp) y).other (a := ⟨w.heap.size + 1 + 1, 2, none⟩) (by simp) z)
  ⟨y0.cell 0, y0.cell 1, y0.cell 2, y1.cell 0, y1.cell 1, y1.cell 2⟩
set_option maxRecDepth 100000 in
set_option maxHeartbeats 2000000 in
theorem f_Mul (w : World) (v u : Value) (p q : Rat) (hp : IsQ .u64 w v p) (hq : IsQ .u64 w u q)
    (h1 : (limbs p.num.natAbs).length ≤ 100000) (h2 : (limbs p.den).length ≤ 100000) (h3 : (limbs q.num.natAbs).length ≤ 100000) (h4 : (limbs q.den).length ≤ 100000) :
    Calls Tryz.prog 101 #[v, u] w fun e w' => RetQ .u64 (p * q) e w' ∧ Below w.heap.size w w' := by
  have hq0 := qmk_mul p q
  obtain ⟨Q, hQ⟩ : ∃ Q, p * q = Q := ⟨_, rfl⟩
  rw [hQ] at hq0 ⊢
  have hD := hid (Nat.mul_pos p.den_pos q.den_pos)
  obtain ⟨N1, D1, rfl, hn1, hd1⟩ := hp.ex
  obtain ⟨N2, D2, rfl, hn2, hd2⟩ := hq.ex
  clear hp hq hQ
  generalize decide (p.num < 0) = m1 at *
  generalize decide (q.num < 0) = m2 at *
  generalize p.num.natAbs = n1 at *
  generalize q.num.natAbs = n2 at *
  generalize p.den = d1 at *
  generalize q.den = d2 at *
  have HQ := hid hq0
  clear hq0
  have HN1 := hid hn1; have HD1 := hid hd1; have HN2 := hid hn2; have HD2 := hid hd2
  have L1 := hid (Nat.le_trans (len_mul h1 h3) (show 100000 + 100000 ≤ 1000000 by omega))
  have L2 := hid (Nat.le_trans (len_mul h2 h4) (show 100000 + 100000 ≤ 1000000 by omega))
  have H1 := hid (Nat.le_trans h1 (show 100000 ≤ 1000000 by omega))
  have H2 := hid (Nat.le_trans h2 (show 100000 ≤ 1000000 by omega))
  have H3 := hid (Nat.le_trans h3 (show 100000 ≤ 1000000 by omega))
  have H4 := hid (Nat.le_trans h4 (show 100000 ≤ 1000000 by omega))
  clear h1 h2 h3 h4
  obtain ⟨a1, c1, rfl, _⟩ := hn1.openI
  obtain ⟨a2, c2, rfl, _⟩ := hd1.openI
  obtain ⟨a3, c3, rfl, _⟩ := hn2.openI
  obtain ⟨a4, c4, rfl, _⟩ := hd2.openI
  clear hn1 hd1 hn2 hd2
  go_enter Tryz.func101, Tryz.ntmps101
  go_wp2_with fail
  obtain ⟨W, hW⟩ : ∃ W, ((w.alloc (.cells #[.bool m1, .slice a1 (limbs n1).length c1, .slice a2 (limbs d1).length c2] 57)).alloc (.cells #[.bool m2, .slice a3 (limbs n2).length c3, .slice a4 (limbs d2).length c4] 57)).alloc (.cells #[.bool false, .slice none 0 0, .slice none 0 0] 57) = W := ⟨_, rfl⟩
  have T := hid (Three.mk' hW)
  rw [hW]
  clear hW
  have hS := T.out.cells (Below.refl _ _).drew
  have B0 := hid (T.out.below.drew)
  have C0 := hid ((Below.refl W.heap.size W).drew)
  refine held_plain [0, 1, 2, 3, 4, 5, 6, 7, 8, 10, 11, 12, 13] 4 (twoF w.heap.size m1 m2 (.slice a1 (limbs n1).length c1) (.slice a2 (limbs d1).length c2) (.slice a3 (limbs n2).length c3) (.slice a4 (limbs d2).length c4)) (by kernel_rfl) (by kernel_rfl) (by kernel_rfl) (by kernel_rfl) hS ?_
  iterate 13
    refine ⟨_, rfl, ?_⟩
    apply Exists.intro
    refine ⟨.inl ⟨by rfl, ?_⟩, ?_⟩
    · (intro W' hW'; obtain ⟨q1, q2, q3, q4, q5, q6⟩ := hW'; go_simp; try (with_reducible rfl))
    (dsimp only [Act.put]; try simp only [List.setIfInBounds_toArray, List.set_cons_zero, List.set_cons_succ])
  clear hS
  refine held_one (i := 9) (by kernel_rfl) (by rfl) (by rfl) ?_
  go_wp2_with fail
  refine (l_Mul _ _ _ n1 n2 (HN1.out.call B0.out) (HN2.out.call B0.out) H1.out H3.out).mono ?_; rintro e w1 ⟨⟨v1, rfl, hv1⟩, hb1⟩
  have B1 := hid (B0.out.trans (hb1.mono B0.out.size)); have C1 := hid (bnext C0.out hb1); have V1 := hid hv1
  clear hb1 hv1
  go_wp2_with fail
  refine ⟨T.out.cells C1.out, ?_⟩
  refine held_one (i := 14) (by kernel_rfl) (by rfl) (by rfl) ?_
  go_wp2_with fail
  refine (l_Mul _ _ _ d1 d2 (HD1.out.call B1.out) (HD2.out.call B1.out) H2.out H4.out).mono ?_; rintro e w2 ⟨⟨v2, rfl, hv2⟩, hb2⟩
  have B2 := hid (B1.out.trans (hb2.mono B1.out.size)); have C2 := hid (bnext C1.out hb2); have V2 := hid hv2; have W1 := hid (V1.out.call hb2)
  clear hb2 hv2
  go_wp2_with fail
  refine ⟨T.out.cells C2.out, ?_⟩
  refine held_one (i := 15) (by kernel_rfl) (by rfl) (by rfl) ?_
  go_wp2_with fail
  refine (f_Make _ _ _ _ (n1 * n2) (d1 * d2) W1.out V2.out hD.out L1.out L2.out).mono ?_; rintro e w3 ⟨⟨v3, rfl, hv3⟩, hb3⟩
  have hbn : (!(m1 == m2)) = (m1 != m2) := rfl
  rw [hbn, HQ.out] at hv3
  clear hbn
  have B3 := hid (B2.out.trans (hb3.mono B2.out.size)); have C3 := hid (bnext C2.out hb3)
  clear hb3
  obtain ⟨N3, D3, rfl, hN3, hD3⟩ := hv3.ex
  obtain ⟨a5, c5, rfl, _⟩ := hN3.openI
  obtain ⟨a6, c6, rfl, _⟩ := hD3.openI
  obtain ⟨k5, hk5⟩ : ∃ k, (limbs Q.num.natAbs).length = k := ⟨_, rfl⟩
  obtain ⟨k6, hk6⟩ : ∃ k, (limbs Q.den).length = k := ⟨_, rfl⟩
  obtain ⟨mq, hmq⟩ : ∃ m, decide (Q.num < 0) = m := ⟨_, rfl⟩
  rw [hk5] at hN3 ⊢
  rw [hk6] at hD3 ⊢
  rw [hmq]
  have HN3 := hid hN3; have HD3 := hid hD3; have HMQ := hid hmq
  have Z := hid (T.out.b2.call C3.out)
  have t0 := Z.out.cell 0
  have t1 := Z.out.cell 1
  have t2 := Z.out.cell 2
  have t3 := Z.out.free 0
  have t4 := Z.out.free 1
  have t5 := Z.out.free 2
  simp at t0 t1 t2
  clear hv3 hN3 hD3 hk5 hk6 hmq
  go_wp2_with fail
  refine ⟨T.out.cells C3.out, ?_⟩
  refine held_one (i := 16) (by kernel_rfl) (by rfl) (by rfl) ?_
  go_wp2_with fail
  refine ⟨T.out.stored C3.out _ _ _, ?_⟩
  refine wpAnyH_done (by kernel_rfl) ?_ _
  simp only [Only]
  obtain ⟨s1, s2⟩ := set3 Z.out mq a5 a6 k5 c5 k6 c6
  have f0 := s2.cell 0
  have f1 := s2.cell 1
  have f2 := s2.cell 2
  simp at f0 f1 f2
  clear t0 t1 t2 t3 t4 t5
  go_wp2_with fail
  refine bodyPost_ret (v := .agg #[.bool mq, .slice a5 k5 c5, .slice a6 k6 c6]) (by simp [results, Tryz.results101, go_sem, f0, f1, f2]) rfl ⟨⟨_, rfl, ⟨.slice a5 k5 c5, .slice a6 k6 c6, by rw [HMQ.out], s1 _ _ _ HN3.out, s1 _ _ _ HD3.out⟩⟩, ?_⟩
  exact ((B3.out.setCell (by simp; omega) _).setCell (by simp; omega) _).setCell (by simp; omega) _
end Go.Proofs.YtlimaehdmcnjaaaGreatDoor
namespace Go.Proofs.YtlimaehdmcnjaaaGreatDoor
open Go.RowKit
open Go.Lib (decDigits nDigits)
set_option linter.unusedVariables false
theorem f_Inv (w : World) (v : Value) (q : Rat) (h : IsQ .u64 w v q) (h0 : q ≠ 0) :
    Calls Tryz.prog 102 #[v] w fun e w' => RetQ .u64 q⁻¹ e w' ∧ Below w.heap.size w w' := by
  obtain ⟨N, D, rfl, hn, hd⟩ := h.ex
  obtain ⟨m, hm⟩ : ∃ m, decide (q.num < 0) = m := ⟨_, rfl⟩
  have HN := hid hn; have HD := hid hd; have HM := hid hm; have H0 := hid h0
  rw [hm]
  obtain ⟨a1, c1, rfl, _⟩ := hn.openI
  obtain ⟨a2, c2, rfl, _⟩ := hd.openI
  clear hn hd hm h0 h
  go_enter Tryz.func102, Tryz.ntmps102
  go_wp2_with fail
  obtain ⟨p1, p2, p3⟩ := inv_num H0.out
  have B := ((Below.refl w.heap.size w).alloc (Nat.le_refl _) (.cells #[.bool m, .slice a1 (limbs q.num.natAbs).length c1, .slice a2 (limbs q.den).length c2] 57)).alloc (by simp) (.cells #[.bool m, .slice a2 (limbs q.den).length c2, .slice a1 (limbs q.num.natAbs).length c1] 57)
  refine bodyPost_ret (v := .agg #[.bool m, .slice a2 (limbs q.den).length c2, .slice a1 (limbs q.num.natAbs).length c1]) (by simp [results, Tryz.results102, go_sem]) rfl ⟨⟨_, rfl, ⟨_, _, rfl.trans ?_, by rw [p2]; exact HD.out.call B, by rw [p3]; exact HN.out.call B⟩⟩, B⟩
  rw [p1, HM.out]
def sgQ (q : Rat) : Int := if q.num = 0 then 0 else if q.num < 0 then -1 else 1
theorem sgQ_zero {q : Rat} (h : q.num = 0) : sgQ q = 0 := if_pos h
theorem sgQ_neg {q : Rat} (h : ¬ q.num = 0) (h2 : q.num < 0) : sgQ q = -1 := by rw [sgQ, if_neg h, if_pos h2]
theorem sgQ_pos {q : Rat} (h : ¬ q.num = 0) (h2 : ¬ q.num < 0) : sgQ q = 1 := by rw [sgQ, if_neg h, if_neg h2]
theorem f_Sign (w : World) (v : Value) (q : Rat) (h : IsQ .u64 w v q) :
    Calls Tryz.prog 38 #[v] w fun e w' => e = .returned (.int .i64 (sgQ q)) ∧ Below w.heap.size w w' := by
  obtain ⟨N, D, rfl, hn, hd⟩ := h.ex
  obtain ⟨m, hm⟩ : ∃ m, decide (q.num < 0) = m := ⟨_, rfl⟩
  have HN := hid hn; have HM := hid hm
  rw [hm]
  obtain ⟨a1, c1, rfl, _⟩ := hn.openI
  obtain ⟨a2, c2, rfl, _⟩ := hd.openI
  obtain ⟨k1, hk1⟩ : ∃ k, (limbs q.num.natAbs).length = k := ⟨_, rfl⟩
  obtain ⟨k2, hk2⟩ : ∃ k, (limbs q.den).length = k := ⟨_, rfl⟩
  rw [hk1] at HN ⊢
  rw [hk2]
  have b0 := hid ((Below.refl w.heap.size w).alloc (Nat.le_refl _) (.cells #[.bool m, .slice a1 k1 c1, .slice a2 k2 c2] 57))
  have N0 := hid (HN.out.call b0.out)
  clear hn hd hm h hk1 hk2
  go_enter Tryz.func38, Tryz.ntmps38
  go_wp2_with fail
  refine (l_Zero _ _ _ N0.out).mono ?_; rintro e w1 ⟨rfl, rfl⟩
  by_cases hz : q.num = 0
  · have h1 : isZ q.num.natAbs = true := isZ_iff.2 (by omega)
    rw [h1]
    have HZ := hid hz
    clear h1 hz
    go_wp2_with fail
    go_ret
    exact ⟨ret_int (sgQ_zero HZ.out).symm, b0.out⟩
  · have h1 : isZ q.num.natAbs = false := decide_eq_false (by omega)
    rw [h1]
    have HZ := hid hz
    clear h1 hz
    cases m
    · go_wp2_with fail
      go_ret
      exact ⟨ret_int (sgQ_pos HZ.out (of_decide_eq_false HM.out)).symm, b0.out⟩
    · go_wp2_with fail
      go_ret
      exact ⟨ret_int (sgQ_neg HZ.out (of_decide_eq_true HM.out)).symm, b0.out⟩
theorem neg_partsU {q : Rat} {m : Bool} (hm : decide (q.num < 0) = m) : decide ((-q).num < 0) = (!m && !isZ q.num.natAbs) ∧ (-q).num.natAbs = q.num.natAbs ∧ (-q).den = q.den := by
  refine ⟨?_, by rw [Rat.neg_num, Int.natAbs_neg], Rat.neg_den q⟩
  rw [Rat.neg_num, ← hm, Bool.eq_iff_iff]
  unfold isZ
  simp only [Bool.and_eq_true, Bool.not_eq_true', decide_eq_true_eq, decide_eq_false_iff_not]
  omega
set_option maxRecDepth 100000 in
set_option maxHeartbeats 1000000 in
theorem f_Neg (w : World) (v : Value) (q : Rat) (h : IsQ .u64 w v q) :
    Calls Tryz.prog 96 #[v] w fun e w' => RetQ .u64 (-q) e w' ∧ Below w.heap.size w w' := by
  obtain ⟨N, D, rfl, hn, hd⟩ := h.ex
  obtain ⟨m, hm⟩ : ∃ m, decide (q.num < 0) = m := ⟨_, rfl⟩
  have HN := hid hn; have HD := hid hd; have HP := hid (neg_partsU hm)
  rw [hm]
  obtain ⟨a1, c1, rfl, _⟩ := hn.openI
  obtain ⟨a2, c2, rfl, _⟩ := hd.openI
  obtain ⟨k1, hk1⟩ : ∃ k, (limbs q.num.natAbs).length = k := ⟨_, rfl⟩
  obtain ⟨k2, hk2⟩ : ∃ k, (limbs q.den).length = k := ⟨_, rfl⟩
  rw [hk1] at HN ⊢
  rw [hk2] at HD ⊢
  have HZ := fun W h => hid (l_Zero W (.slice a1 k1 c1) q.num.natAbs h)
  obtain ⟨z, hz⟩ : ∃ z, isZ q.num.natAbs = z := ⟨_, rfl⟩
  rw [hz] at HP HZ
  clear hn hd hm h hk1 hk2 hz
  have b1 := hid (((Below.refl w.heap.size w).alloc (Nat.le_refl _) (.cells #[.bool m, .slice a1 k1 c1, .slice a2 k2 c2] 57)).alloc (by simp) (.cells #[.bool false, .slice none 0 0, .slice none 0 0] 57))
  cases m
  · go_enter Tryz.func96, Tryz.ntmps96
    go_wp2_with fail
    refine region_tail 14 (by kernel_rfl) (by kernel_rfl) ?_
    simp only [List.take_succ_cons, List.take_zero, List.drop_succ_cons, List.drop_zero]
    iterate 6 still_step
    still_call ((HZ _ (HN.out.call b1.out.drew)).out.mono fun _ _ h => ⟨h.1, h.2.symm⟩)
    iterate 7 still_step
    refine wpStill_nil ?_
    go_wp2_with fail
    have b2 := (((Below.refl w.heap.size w).alloc (Nat.le_refl _) (.cells #[.bool false, .slice a1 k1 c1, .slice a2 k2 c2] 57)).alloc (by simp) (.cells #[.bool (!z), .slice a1 k1 c1, .slice a2 k2 c2] 57)).drew
    obtain ⟨p1, p2, p3⟩ := HP.out
    refine bodyPost_ret (v := .agg #[.bool (!z), .slice a1 k1 c1, .slice a2 k2 c2]) (by simp [results, Tryz.results96, go_sem]) rfl ⟨⟨_, rfl, ⟨.slice a1 k1 c1, .slice a2 k2 c2, ?_, ?_, ?_⟩⟩, b2⟩
    · rw [p1]; rfl
    · rw [p2]; exact HN.out.call b2
    · rw [p3]; exact HD.out.call b2
  · go_enter Tryz.func96, Tryz.ntmps96
    go_wp2_with fail
    refine region_tail 14 (by kernel_rfl) (by kernel_rfl) ?_
    simp only [List.take_succ_cons, List.take_zero, List.drop_succ_cons, List.drop_zero]
    iterate 14 still_step
    refine wpStill_nil ?_
    go_wp2_with fail
    have b2 := (((Below.refl w.heap.size w).alloc (Nat.le_refl _) (.cells #[.bool true, .slice a1 k1 c1, .slice a2 k2 c2] 57)).alloc (by simp) (.cells #[.bool false, .slice a1 k1 c1, .slice a2 k2 c2] 57)).drew
    obtain ⟨p1, p2, p3⟩ := HP.out
    refine bodyPost_ret (v := .agg #[.bool false, .slice a1 k1 c1, .slice a2 k2 c2]) (by simp [results, Tryz.results96, go_sem]) rfl ⟨⟨_, rfl, ⟨.slice a1 k1 c1, .slice a2 k2 c2, ?_, ?_, ?_⟩⟩, b2⟩
    · rw [p1]; rfl
    · rw [p2]; exact HN.out.call b2
    · rw [p3]; exact HD.out.call b2
end Go.Proofs.YtlimaehdmcnjaaaGreatDoor
namespace Go.Proofs.YtlimaehdmcnjaaaGreatDoor
open Go.RowKit
set_option linter.unusedVariables false
set_option linter.unusedSimpArgs false
theorem q_add_same {p q : Rat} {m : Bool} (h1 : decide (p.num < 0) = m) (h2 : decide (q.num < 0) = m) : qmk m (p.num.natAbs * q.den + q.num.natAbs * p.den) (p.den * q.den) = p + q := by
  rw [q_add, h1, h2, sgn_same]; rfl
theorem q_add_less {p q : Rat} {m1 m2 : Bool} (h1 : decide (p.num < 0) = m1) (h2 : decide (q.num < 0) = m2) (h : m1 ≠ m2) (hl : p.num.natAbs * q.den < q.num.natAbs * p.den) : qmk m2 (q.num.natAbs * p.den - p.num.natAbs * q.den) (p.den * q.den) = p + q := by
  rw [q_add, h1, h2, sgn_less h hl]; rfl
theorem q_add_more {p q : Rat} {m1 m2 : Bool} (h1 : decide (p.num < 0) = m1) (h2 : decide (q.num < 0) = m2) (h : m1 ≠ m2) (hl : q.num.natAbs * p.den ≤ p.num.natAbs * q.den) : qmk m1 (p.num.natAbs * q.den - q.num.natAbs * p.den) (p.den * q.den) = p + q := by
  rw [q_add, h1, h2, sgn_more h hl]; rfl
set_option maxRecDepth 100000 in
set_option maxHeartbeats 4000000 in
theorem f_Add (w : World) (v u : Value) (p q : Rat) (hp : IsQ .u64 w v p) (hq : IsQ .u64 w u q)
    (h1 : (limbs p.num.natAbs).length ≤ 100000) (h2 : (limbs p.den).length ≤ 100000) (h3 : (limbs q.num.natAbs).length ≤ 100000) (h4 : (limbs q.den).length ≤ 100000) :
    Calls Tryz.prog 45 #[v, u] w fun e w' => RetQ .u64 (p + q) e w' ∧ Below w.heap.size w w' := by
  obtain ⟨m1, hm1⟩ : ∃ m, decide (p.num < 0) = m := ⟨_, rfl⟩
  obtain ⟨m2, hm2⟩ : ∃ m, decide (q.num < 0) = m := ⟨_, rfl⟩
  have s1 := fun (e : m1 = m2) => q_add_same (m := m1) hm1 (hm2.trans e.symm)
  have s2 := q_add_less hm1 hm2
  have s3 := q_add_more hm1 hm2
  obtain ⟨Q, hQ⟩ : ∃ Q, p + q = Q := ⟨_, rfl⟩
  rw [hQ] at s1 s2 s3 ⊢
  have hD := hid (Nat.mul_pos p.den_pos q.den_pos)
  obtain ⟨N1, D1, rfl, hn1, hd1⟩ := hp.ex
  obtain ⟨N2, D2, rfl, hn2, hd2⟩ := hq.ex
  rw [hm1, hm2]
  clear hp hq hQ hm1 hm2
  generalize p.num.natAbs = n1 at *
  generalize q.num.natAbs = n2 at *
  generalize p.den = d1 at *
  generalize q.den = d2 at *
  have S1 := hid s1; have S2 := hid s2; have S3 := hid s3
  have HN1 := hid hn1; have HD1 := hid hd1; have HN2 := hid hn2; have HD2 := hid hd2
  have lx := len_mul h1 h4
  have ly := len_mul h3 h2
  have ld := len_mul h2 h4
  have LX := hid (Nat.le_trans lx (show 100000 + 100000 ≤ 200000 by omega)); have LY := hid (Nat.le_trans ly (show 100000 + 100000 ≤ 200000 by omega)); have LD := hid (Nat.le_trans ld (show 100000 + 100000 ≤ 1000000 by omega))
  have LXY := hid (Nat.le_trans (len_add lx ly) (show 100000 + 100000 + (100000 + 100000) + 1 ≤ 1000000 by omega))
  have H1 := hid (Nat.le_trans h1 (show 100000 ≤ 1000000 by omega))
  have H2 := hid (Nat.le_trans h2 (show 100000 ≤ 1000000 by omega))
  have H3 := hid (Nat.le_trans h3 (show 100000 ≤ 1000000 by omega))
  have H4 := hid (Nat.le_trans h4 (show 100000 ≤ 1000000 by omega))
  clear h1 h2 h3 h4 lx ly ld s1 s2 s3
  obtain ⟨a1, c1, rfl, _⟩ := hn1.openI
  obtain ⟨a2, c2, rfl, _⟩ := hd1.openI
  obtain ⟨a3, c3, rfl, _⟩ := hn2.openI
  obtain ⟨a4, c4, rfl, _⟩ := hd2.openI
  clear hn1 hd1 hn2 hd2
  go_enter Tryz.func45, Tryz.ntmps45
  go_wp2_with fail
  obtain ⟨W, hW⟩ : ∃ W, ((w.alloc (.cells #[.bool m1, .slice a1 (limbs n1).length c1, .slice a2 (limbs d1).length c2] 57)).alloc (.cells #[.bool m2, .slice a3 (limbs n2).length c3, .slice a4 (limbs d2).length c4] 57)).alloc (.cells #[.bool false, .slice none 0 0, .slice none 0 0] 57) = W := ⟨_, rfl⟩
  have T := hid (Three.mk' hW)
  rw [hW]
  clear hW
  have hS := T.out.cells (Below.refl _ _).drew
  have B0 := hid (T.out.below.drew)
  have C0 := hid ((Below.refl W.heap.size W).drew)
  refine held_plain [0, 1, 2, 3, 5, 6, 7, 8] 4 (twoF w.heap.size m1 m2 (.slice a1 (limbs n1).length c1) (.slice a2 (limbs d1).length c2) (.slice a3 (limbs n2).length c3) (.slice a4 (limbs d2).length c4)) (by kernel_rfl) (by kernel_rfl) (by kernel_rfl) (by kernel_rfl) hS ?_
  iterate 8
    refine ⟨_, rfl, ?_⟩
    apply Exists.intro
    refine ⟨.inl ⟨by rfl, ?_⟩, ?_⟩
    · (intro W' hW'; obtain ⟨q1, q2, q3, q4, q5, q6⟩ := hW'; go_simp; try (with_reducible rfl))
    (dsimp only [Act.put]; try simp only [List.setIfInBounds_toArray, List.set_cons_zero, List.set_cons_succ])
  clear hS
  refine held_one (i := 4) (by kernel_rfl) (by rfl) (by rfl) ?_
  go_wp2_with fail
  refine (l_Mul _ _ _ n1 d2 (HN1.out.call B0.out) (HD2.out.call B0.out) H1.out H4.out).mono ?_; rintro e w1 ⟨⟨v1, rfl, hv1⟩, hb1⟩
  have B1 := hid (B0.out.trans (hb1.mono B0.out.size)); have C1 := hid (bnext C0.out hb1); have V1 := hid hv1
  clear hb1 hv1
  go_wp2_with fail
  refine ⟨T.out.cells C1.out, ?_⟩
  refine held_one (i := 9) (by kernel_rfl) (by rfl) (by rfl) ?_
  go_wp2_with fail
  refine (l_Mul _ _ _ n2 d1 (HN2.out.call B1.out) (HD1.out.call B1.out) H3.out H2.out).mono ?_; rintro e w2 ⟨⟨v2, rfl, hv2⟩, hb2⟩
  have B2 := hid (B1.out.trans (hb2.mono B1.out.size)); have C2 := hid (bnext C1.out hb2); have V2 := hid hv2; have W1 := hid (V1.out.call hb2)
  clear hb2 hv2
  go_wp2_with fail
  refine ⟨T.out.cells C2.out, ?_⟩
  refine held_more (is := [10, 11]) (g := 0) (by kernel_rfl) rfl (T.out.cells C2.out) (by kernel_rfl) ?_
  iterate 2
    refine ⟨_, rfl, ?_⟩
    apply Exists.intro
    refine ⟨.inl ⟨by rfl, ?_⟩, ?_⟩
    · (intro W' hW'; clear hW'; go_simp; try (with_reducible rfl))
    (dsimp only [Act.put]; try simp only [List.setIfInBounds_toArray, List.set_cons_zero, List.set_cons_succ])
  refine wpAnyH_done (by kernel_rfl) ?_ _
  simp only [Only]
  obtain ⟨k0, k1, k2, k3, k4, k5⟩ := T.out.cells C2.out
  go_wp2_with fail
  refine (l_Mul _ _ _ d1 d2 (HD1.out.call B2.out) (HD2.out.call B2.out) H2.out H4.out).mono ?_; rintro e w3 ⟨⟨v3, rfl, hv3⟩, hb3⟩
  have B3 := hid (B2.out.trans (hb3.mono B2.out.size)); have C3 := hid (bnext C2.out hb3); have V3 := hid hv3; have X1 := hid (W1.out.call hb3); have X2 := hid (V2.out.call hb3)
  clear hb3 hv3 k0 k1 k2 k3 k4 k5
  go_wp2_with fail
  refine (l_Cmp _ _ _ (n1 * d2) (n2 * d1) X1.out X2.out (Nat.le_trans LX.out (by omega))).mono ?_; rintro e w4 ⟨rfl, hb4⟩
  have B4 := hid (B3.out.trans (hb4.mono B3.out.size)); have C4 := hid (bnext C3.out hb4); have V4 := hid (V3.out.call hb4); have Y1 := hid (X1.out.call hb4); have Y2 := hid (X2.out.call hb4)
  clear hb4
  obtain ⟨k0, k1, k2, k3, k4, k5⟩ := T.out.cells C4.out
  clear B0 B1 B2 B3 C0 C1 C2 C3 V1 V2 V3 W1 X1 X2
  obtain ⟨X, hX⟩ : ∃ X, n1 * d2 = X := ⟨_, rfl⟩
  obtain ⟨Y, hY⟩ : ∃ X, n2 * d1 = X := ⟨_, rfl⟩
  obtain ⟨E, hE⟩ : ∃ X, d1 * d2 = X := ⟨_, rfl⟩
  rw [hX] at S1 S2 S3 LX LXY Y1 ⊢
  rw [hY] at S1 S2 S3 LY LXY Y2 ⊢
  rw [hE] at S1 S2 S3 LD V4 hD
  clear hX hY hE
  by_cases em : m1 = m2
  · have SA := hid (S1.out em)
    subst em
    have q0 : (m1 == m1) = true := beq_self_eq_true m1
    go_wp2_with fail
    have hS := T.out.cells C4.out.drew
    have B0 := hid B4.out.drew
    have C0 := hid C4.out.drew
    refine held_plain [0, 1, 2, 3, 5] 3 (twoF w.heap.size m1 m1 (.slice a1 (limbs n1).length c1) (.slice a2 (limbs d1).length c2) (.slice a3 (limbs n2).length c3) (.slice a4 (limbs d2).length c4)) (by kernel_rfl) (by kernel_rfl) (by kernel_rfl) (by kernel_rfl) hS ?_
    iterate 5
      refine ⟨_, rfl, ?_⟩
      apply Exists.intro
      refine ⟨.inl ⟨by rfl, ?_⟩, ?_⟩
      · (intro W' hW'; obtain ⟨q1, q2, q3, q4, q5, q6⟩ := hW'; go_simp; try (with_reducible rfl))
      (dsimp only [Act.put]; try simp only [List.setIfInBounds_toArray, List.set_cons_zero, List.set_cons_succ])
    clear hS
    refine held_one (i := 4) (by kernel_rfl) (by rfl) (by rfl) ?_
    go_wp2_with fail
    refine (l_Add _ _ _ X Y (Y1.out.call (Below.refl _ _).drew) (Y2.out.call (Below.refl _ _).drew) (Nat.le_trans LX.out (by omega)) (Nat.le_trans LY.out (by omega))).mono ?_; rintro e w5 ⟨⟨v5, rfl, hv5⟩, hb5⟩
    have B5 := hid (B0.out.trans (hb5.mono B0.out.size)); have C5 := hid (C0.out.trans (hb5.mono C0.out.size)); have V5 := hid hv5; have E5 := hid (V4.out.call (show Below w4.heap.size w4 w5 from (Below.refl _ _).drew.trans hb5))
    clear hb5 hv5
    go_wp2_with fail
    refine ⟨T.out.cells C5.out, ?_⟩
    refine held_one (i := 6) (by kernel_rfl) (by rfl) (by rfl) ?_
    go_wp2_with fail
    refine (f_Make _ _ _ _ (X + Y) E V5.out E5.out hD.out (LXY.out) LD.out).mono ?_; rintro e w6 ⟨⟨v3, rfl, hv3⟩, hb6⟩
    rw [SA.out] at hv3
    have B6 := hid (B5.out.trans (hb6.mono B5.out.size)); have C6 := hid (C5.out.trans (hb6.mono C5.out.size))
    clear hb6
    obtain ⟨N3, D3, rfl, hN3, hD3⟩ := hv3.ex
    obtain ⟨a5, c5, rfl, _⟩ := hN3.openI
    obtain ⟨a6, c6, rfl, _⟩ := hD3.openI
    obtain ⟨k5, hk5⟩ : ∃ k, (limbs Q.num.natAbs).length = k := ⟨_, rfl⟩
    obtain ⟨k6, hk6⟩ : ∃ k, (limbs Q.den).length = k := ⟨_, rfl⟩
    obtain ⟨mq, hmq⟩ : ∃ m, decide (Q.num < 0) = m := ⟨_, rfl⟩
    rw [hk5] at hN3 ⊢
    rw [hk6] at hD3 ⊢
    rw [hmq]
    have HN3 := hid hN3; have HD3 := hid hD3; have HMQ := hid hmq
    have Z := hid (T.out.b2.call C6.out)
    have t0 := Z.out.cell 0
    have t1 := Z.out.cell 1
    have t2 := Z.out.cell 2
    have t3 := Z.out.free 0
    have t4 := Z.out.free 1
    have t5 := Z.out.free 2
    simp at t0 t1 t2
    clear hv3 hN3 hD3 hk5 hk6 hmq
    go_wp2_with fail
    refine ⟨T.out.cells C6.out, ?_⟩
    refine held_one (i := 7) (by kernel_rfl) (by rfl) (by rfl) ?_
    go_wp2_with fail
    refine ⟨T.out.stored C6.out _ _ _, ?_⟩
    refine wpAnyH_done (by kernel_rfl) ?_ _
    simp only [Only]
    obtain ⟨s1, s2⟩ := set3 Z.out mq a5 a6 k5 c5 k6 c6
    have f0 := s2.cell 0
    have f1 := s2.cell 1
    have f2 := s2.cell 2
    simp at f0 f1 f2
    clear t0 t1 t2 t3 t4 t5
    go_wp2_with fail
    refine bodyPost_ret (v := .agg #[.bool mq, .slice a5 k5 c5, .slice a6 k6 c6]) (by simp [results, Tryz.results45, go_sem, f0, f1, f2]) rfl ⟨⟨_, rfl, ⟨.slice a5 k5 c5, .slice a6 k6 c6, by rw [HMQ.out], s1 _ _ _ HN3.out, s1 _ _ _ HD3.out⟩⟩, ?_⟩
    exact ((B6.out.setCell (by simp; omega) _).setCell (by simp; omega) _).setCell (by simp; omega) _
  · have q0 : (m1 == m2) = false := by simpa using em
    have HE := hid em
    clear em
    by_cases hc : X < Y
    · have HC := hid hc
      rw [ordN_lt hc]
      clear hc
      go_wp2_with fail
      have hS := T.out.cells C4.out.drew
      have B0 := hid B4.out.drew
      have C0 := hid C4.out.drew
      refine held_plain [0, 1, 2, 3, 5] 3 (twoF w.heap.size m1 m2 (.slice a1 (limbs n1).length c1) (.slice a2 (limbs d1).length c2) (.slice a3 (limbs n2).length c3) (.slice a4 (limbs d2).length c4)) (by kernel_rfl) (by kernel_rfl) (by kernel_rfl) (by kernel_rfl) hS ?_
      iterate 5
        refine ⟨_, rfl, ?_⟩
        apply Exists.intro
        refine ⟨.inl ⟨by rfl, ?_⟩, ?_⟩
        · (intro W' hW'; obtain ⟨q1, q2, q3, q4, q5, q6⟩ := hW'; go_simp; try (with_reducible rfl))
        (dsimp only [Act.put]; try simp only [List.setIfInBounds_toArray, List.set_cons_zero, List.set_cons_succ])
      clear hS
      refine held_one (i := 4) (by kernel_rfl) (by rfl) (by rfl) ?_
      go_wp2_with fail
      refine (l_Sub _ _ _ Y X (Y2.out.call (Below.refl _ _).drew) (Y1.out.call (Below.refl _ _).drew) (Nat.le_of_lt HC.out) (Nat.le_trans LY.out (by omega))).mono ?_; rintro e w5 ⟨⟨v5, rfl, hv5⟩, hb5⟩
      have B5 := hid (B0.out.trans (hb5.mono B0.out.size)); have C5 := hid (C0.out.trans (hb5.mono C0.out.size)); have V5 := hid hv5; have E5 := hid (V4.out.call (show Below w4.heap.size w4 w5 from (Below.refl _ _).drew.trans hb5))
      clear hb5 hv5
      go_wp2_with fail
      refine ⟨T.out.cells C5.out, ?_⟩
      refine held_one (i := 6) (by kernel_rfl) (by rfl) (by rfl) ?_
      go_wp2_with fail
      refine (f_Make _ _ _ _ (Y - X) E V5.out E5.out hD.out (Nat.le_trans (limbs_length_mono (Nat.sub_le Y X)) (Nat.le_trans LY.out (by omega))) LD.out).mono ?_; rintro e w6 ⟨⟨v3, rfl, hv3⟩, hb6⟩
      rw [S2.out HE.out HC.out] at hv3
      have B6 := hid (B5.out.trans (hb6.mono B5.out.size)); have C6 := hid (C5.out.trans (hb6.mono C5.out.size))
      clear hb6
      obtain ⟨N3, D3, rfl, hN3, hD3⟩ := hv3.ex
      obtain ⟨a5, c5, rfl, _⟩ := hN3.openI
      obtain ⟨a6, c6, rfl, _⟩ := hD3.openI
      obtain ⟨k5, hk5⟩ : ∃ k, (limbs Q.num.natAbs).length = k := ⟨_, rfl⟩
      obtain ⟨k6, hk6⟩ : ∃ k, (limbs Q.den).length = k := ⟨_, rfl⟩
      obtain ⟨mq, hmq⟩ : ∃ m, decide (Q.num < 0) = m := ⟨_, rfl⟩
      rw [hk5] at hN3 ⊢
      rw [hk6] at hD3 ⊢
      rw [hmq]
      have HN3 := hid hN3; have HD3 := hid hD3; have HMQ := hid hmq
      have Z := hid (T.out.b2.call C6.out)
      have t0 := Z.out.cell 0
      have t1 := Z.out.cell 1
      have t2 := Z.out.cell 2
      have t3 := Z.out.free 0
      have t4 := Z.out.free 1
      have t5 := Z.out.free 2
      simp at t0 t1 t2
      clear hv3 hN3 hD3 hk5 hk6 hmq
      go_wp2_with fail
      refine ⟨T.out.cells C6.out, ?_⟩
      refine held_one (i := 7) (by kernel_rfl) (by rfl) (by rfl) ?_
      go_wp2_with fail
      refine ⟨T.out.stored C6.out _ _ _, ?_⟩
      refine wpAnyH_done (by kernel_rfl) ?_ _
      simp only [Only]
      obtain ⟨s1, s2⟩ := set3 Z.out mq a5 a6 k5 c5 k6 c6
      have f0 := s2.cell 0
      have f1 := s2.cell 1
      have f2 := s2.cell 2
      simp at f0 f1 f2
      clear t0 t1 t2 t3 t4 t5
      go_wp2_with fail
      refine bodyPost_ret (v := .agg #[.bool mq, .slice a5 k5 c5, .slice a6 k6 c6]) (by simp [results, Tryz.results45, go_sem, f0, f1, f2]) rfl ⟨⟨_, rfl, ⟨.slice a5 k5 c5, .slice a6 k6 c6, by rw [HMQ.out], s1 _ _ _ HN3.out, s1 _ _ _ HD3.out⟩⟩, ?_⟩
      exact ((B6.out.setCell (by simp; omega) _).setCell (by simp; omega) _).setCell (by simp; omega) _
    · have HC := hid (show Y ≤ X by omega)
      have q1 : decide (ordN X Y < 0) = false := by
        rcases Nat.lt_or_ge Y X with h | h
        · rw [ordN_gt h]; rfl
        · rw [show X = Y by omega, ordN_eq]; rfl
      clear hc
      go_wp2_with fail
      have hS := T.out.cells C4.out.drew
      have B0 := hid B4.out.drew
      have C0 := hid C4.out.drew
      refine held_plain [0, 1, 2, 3, 5] 3 (twoF w.heap.size m1 m2 (.slice a1 (limbs n1).length c1) (.slice a2 (limbs d1).length c2) (.slice a3 (limbs n2).length c3) (.slice a4 (limbs d2).length c4)) (by kernel_rfl) (by kernel_rfl) (by kernel_rfl) (by kernel_rfl) hS ?_
      iterate 5
        refine ⟨_, rfl, ?_⟩
        apply Exists.intro
        refine ⟨.inl ⟨by rfl, ?_⟩, ?_⟩
        · (intro W' hW'; obtain ⟨q1, q2, q3, q4, q5, q6⟩ := hW'; go_simp; try (with_reducible rfl))
        (dsimp only [Act.put]; try simp only [List.setIfInBounds_toArray, List.set_cons_zero, List.set_cons_succ])
      clear hS
      refine held_one (i := 4) (by kernel_rfl) (by rfl) (by rfl) ?_
      go_wp2_with fail
      refine (l_Sub _ _ _ X Y (Y1.out.call (Below.refl _ _).drew) (Y2.out.call (Below.refl _ _).drew) HC.out (Nat.le_trans LX.out (by omega))).mono ?_; rintro e w5 ⟨⟨v5, rfl, hv5⟩, hb5⟩
      have B5 := hid (B0.out.trans (hb5.mono B0.out.size)); have C5 := hid (C0.out.trans (hb5.mono C0.out.size)); have V5 := hid hv5; have E5 := hid (V4.out.call (show Below w4.heap.size w4 w5 from (Below.refl _ _).drew.trans hb5))
      clear hb5 hv5
      go_wp2_with fail
      refine ⟨T.out.cells C5.out, ?_⟩
      refine held_one (i := 6) (by kernel_rfl) (by rfl) (by rfl) ?_
      go_wp2_with fail
      refine (f_Make _ _ _ _ (X - Y) E V5.out E5.out hD.out (Nat.le_trans (limbs_length_mono (Nat.sub_le X Y)) (Nat.le_trans LX.out (by omega))) LD.out).mono ?_; rintro e w6 ⟨⟨v3, rfl, hv3⟩, hb6⟩
      rw [S3.out HE.out HC.out] at hv3
      have B6 := hid (B5.out.trans (hb6.mono B5.out.size)); have C6 := hid (C5.out.trans (hb6.mono C5.out.size))
      clear hb6
      obtain ⟨N3, D3, rfl, hN3, hD3⟩ := hv3.ex
      obtain ⟨a5, c5, rfl, _⟩ := hN3.openI
      obtain ⟨a6, c6, rfl, _⟩ := hD3.openI
      obtain ⟨k5, hk5⟩ : ∃ k, (limbs Q.num.natAbs).length = k := ⟨_, rfl⟩
      obtain ⟨k6, hk6⟩ : ∃ k, (limbs Q.den).length = k := ⟨_, rfl⟩
      obtain ⟨mq, hmq⟩ : ∃ m, decide (Q.num < 0) = m := ⟨_, rfl⟩
      rw [hk5] at hN3 ⊢
      rw [hk6] at hD3 ⊢
      rw [hmq]
      have HN3 := hid hN3; have HD3 := hid hD3; have HMQ := hid hmq
      have Z := hid (T.out.b2.call C6.out)
      have t0 := Z.out.cell 0
      have t1 := Z.out.cell 1
      have t2 := Z.out.cell 2
      have t3 := Z.out.free 0
      have t4 := Z.out.free 1
      have t5 := Z.out.free 2
      simp at t0 t1 t2
      clear hv3 hN3 hD3 hk5 hk6 hmq
      go_wp2_with fail
      refine ⟨T.out.cells C6.out, ?_⟩
      refine held_one (i := 7) (by kernel_rfl) (by rfl) (by rfl) ?_
      go_wp2_with fail
      refine ⟨T.out.stored C6.out _ _ _, ?_⟩
      refine wpAnyH_done (by kernel_rfl) ?_ _
      simp only [Only]
      obtain ⟨s1, s2⟩ := set3 Z.out mq a5 a6 k5 c5 k6 c6
      have f0 := s2.cell 0
      have f1 := s2.cell 1
      have f2 := s2.cell 2
      simp at f0 f1 f2
      clear t0 t1 t2 t3 t4 t5
      go_wp2_with fail
      refine bodyPost_ret (v := .agg #[.bool mq, .slice a5 k5 c5, .slice a6 k6 c6]) (by simp [results, Tryz.results45, go_sem, f0, f1, f2]) rfl ⟨⟨_, rfl, ⟨.slice a5 k5 c5, .slice a6 k6 c6, by rw [HMQ.out], s1 _ _ _ HN3.out, s1 _ _ _ HD3.out⟩⟩, ?_⟩
      exact ((B6.out.setCell (by simp; omega) _).setCell (by simp; omega) _).setCell (by simp; omega) _
set_option maxRecDepth 100000 in
set_option maxHeartbeats 2000000 in
theorem f_Sub (w : World) (v u : Value) (p q : Rat) (hp : IsQ .u64 w v p) (hq : IsQ .u64 w u q)
    (h1 : (limbs p.num.natAbs).length ≤ 100000) (h2 : (limbs p.den).length ≤ 100000) (h3 : (limbs q.num.natAbs).length ≤ 100000) (h4 : (limbs q.den).length ≤ 100000) :
    Calls Tryz.prog 43 #[v, u] w fun e w' => RetQ .u64 (p - q) e w' ∧ Below w.heap.size w w' := by
  have e1 : p + -q = p - q := (Rat.sub_eq_add_neg p q).symm
  have F1 := fun V v h => hid (f_Neg V v q h)
  have F2 := fun V v u hv hu => hid (f_Add V v u p (-q) hv hu h1 h2 (by rw [Rat.neg_num, Int.natAbs_neg]; exact h3) (by rw [Rat.neg_den]; exact h4))
  rw [e1] at F2
  obtain ⟨Q, hQ⟩ : ∃ Q, p - q = Q := ⟨_, rfl⟩
  rw [hQ] at F2 ⊢
  have HP := hid hp; have HQ' := hid hq
  obtain ⟨N1, D1, rfl, hn1, hd1⟩ := hp.ex
  obtain ⟨N2, D2, rfl, hn2, hd2⟩ := hq.ex
  obtain ⟨a1, c1, rfl, _⟩ := hn1.openI
  obtain ⟨a2, c2, rfl, _⟩ := hd1.openI
  obtain ⟨a3, c3, rfl, _⟩ := hn2.openI
  obtain ⟨a4, c4, rfl, _⟩ := hd2.openI
  clear hp hq hQ e1 hn1 hd1 hn2 hd2 h1 h2 h3 h4
  obtain ⟨m1, hm1⟩ : ∃ m, decide (p.num < 0) = m := ⟨_, rfl⟩
  obtain ⟨m2, hm2⟩ : ∃ m, decide (q.num < 0) = m := ⟨_, rfl⟩
  obtain ⟨l1, hl1⟩ : ∃ m, (limbs p.num.natAbs).length = m := ⟨_, rfl⟩
  obtain ⟨l2, hl2⟩ : ∃ m, (limbs p.den).length = m := ⟨_, rfl⟩
  obtain ⟨l3, hl3⟩ : ∃ m, (limbs q.num.natAbs).length = m := ⟨_, rfl⟩
  obtain ⟨l4, hl4⟩ : ∃ m, (limbs q.den).length = m := ⟨_, rfl⟩
  rw [hm1, hl1, hl2] at HP
  rw [hm2, hl3, hl4] at HQ'
  rw [hm1, hm2, hl1, hl2, hl3, hl4]
  clear hm1 hm2 hl1 hl2 hl3 hl4
  go_enter Tryz.func43, Tryz.ntmps43
  go_wp2_with fail
  obtain ⟨W, hW⟩ : ∃ W, ((w.alloc (.cells #[.bool m1, .slice a1 l1 c1, .slice a2 l2 c2] 57)).alloc (.cells #[.bool m2, .slice a3 l3 c3, .slice a4 l4 c4] 57)).alloc (.cells #[.bool false, .slice none 0 0, .slice none 0 0] 57) = W := ⟨_, rfl⟩
  have T := hid (Three.mk' hW)
  rw [hW]
  clear hW
  have hS := T.out.cells (Below.refl _ _).drew
  have B0 := hid (T.out.below.drew)
  have C0 := hid ((Below.refl W.heap.size W).drew)
  refine held_plain [0, 1] 3 (twoF w.heap.size m1 m2 (.slice a1 l1 c1) (.slice a2 l2 c2) (.slice a3 l3 c3) (.slice a4 l4 c4)) (by kernel_rfl) (by kernel_rfl) (by kernel_rfl) (by kernel_rfl) hS ?_
  iterate 2
    refine ⟨_, rfl, ?_⟩
    apply Exists.intro
    refine ⟨.inl ⟨by rfl, ?_⟩, ?_⟩
    · (intro W' hW'; obtain ⟨q1, q2, q3, q4, q5, q6⟩ := hW'; go_simp; try (with_reducible rfl))
    (dsimp only [Act.put]; try simp only [List.setIfInBounds_toArray, List.set_cons_zero, List.set_cons_succ])
  clear hS
  refine held_one (i := 2) (by kernel_rfl) (by rfl) (by rfl) ?_
  go_wp2_with fail
  refine (F1 _ _ (HQ'.out.call B0.out)).out.mono ?_; rintro e w1 ⟨⟨v1, rfl, hv1⟩, hb1⟩
  have B1 := hid (B0.out.trans (hb1.mono B0.out.size)); have C1 := hid (bnext C0.out hb1); have V1 := hid hv1
  clear hb1 hv1
  go_wp2_with fail
  refine ⟨T.out.cells C1.out, ?_⟩
  refine held_one (i := 3) (by kernel_rfl) (by rfl) (by rfl) ?_
  go_wp2_with fail
  refine (F2 _ _ _ (HP.out.call B1.out) V1.out).out.mono ?_; rintro e w3 ⟨⟨v3, rfl, hv3⟩, hb3⟩
  have B3 := hid (B1.out.trans (hb3.mono B1.out.size)); have C3 := hid (bnext C1.out hb3)
  clear hb3
  obtain ⟨N3, D3, rfl, hN3, hD3⟩ := hv3.ex
  obtain ⟨a5, c5, rfl, _⟩ := hN3.openI
  obtain ⟨a6, c6, rfl, _⟩ := hD3.openI
  obtain ⟨k5, hk5⟩ : ∃ k, (limbs Q.num.natAbs).length = k := ⟨_, rfl⟩
  obtain ⟨k6, hk6⟩ : ∃ k, (limbs Q.den).length = k := ⟨_, rfl⟩
  obtain ⟨mq, hmq⟩ : ∃ m, decide (Q.num < 0) = m := ⟨_, rfl⟩
  rw [hk5] at hN3 ⊢
  rw [hk6] at hD3 ⊢
  rw [hmq]
  have HN3 := hid hN3; have HD3 := hid hD3; have HMQ := hid hmq
  have Z := hid (T.out.b2.call C3.out)
  have t0 := Z.out.cell 0
  have t1 := Z.out.cell 1
  have t2 := Z.out.cell 2
  have t3 := Z.out.free 0
  have t4 := Z.out.free 1
  have t5 := Z.out.free 2
  simp at t0 t1 t2
  clear hv3 hN3 hD3 hk5 hk6 hmq
  go_wp2_with fail
  refine ⟨T.out.cells C3.out, ?_⟩
  refine held_one (i := 4) (by kernel_rfl) (by rfl) (by rfl) ?_
  go_wp2_with fail
  refine ⟨T.out.stored C3.out _ _ _, ?_⟩
  refine wpAnyH_done (by kernel_rfl) ?_ _
  simp only [Only]
  obtain ⟨s1, s2⟩ := set3 Z.out mq a5 a6 k5 c5 k6 c6
  have f0 := s2.cell 0
  have f1 := s2.cell 1
  have f2 := s2.cell 2
  simp at f0 f1 f2
  clear t0 t1 t2 t3 t4 t5
  go_wp2_with fail
  refine bodyPost_ret (v := .agg #[.bool mq, .slice a5 k5 c5, .slice a6 k6 c6]) (by simp [results, Tryz.results43, go_sem, f0, f1, f2]) rfl ⟨⟨_, rfl, ⟨.slice a5 k5 c5, .slice a6 k6 c6, by rw [HMQ.out], s1 _ _ _ HN3.out, s1 _ _ _ HD3.out⟩⟩, ?_⟩
  exact ((B3.out.setCell (by simp; omega) _).setCell (by simp; omega) _).setCell (by simp; omega) _
set_option maxRecDepth 100000 in
set_option maxHeartbeats 2000000 in
theorem f_Div (w : World) (v u : Value) (p q : Rat) (hp : IsQ .u64 w v p) (hq : IsQ .u64 w u q) (h0 : q ≠ 0)
    (h1 : (limbs p.num.natAbs).length ≤ 100000) (h2 : (limbs p.den).length ≤ 100000) (h3 : (limbs q.num.natAbs).length ≤ 100000) (h4 : (limbs q.den).length ≤ 100000) :
    Calls Tryz.prog 46 #[v, u] w fun e w' => RetQ .u64 (p / q) e w' ∧ Below w.heap.size w w' := by
  have e1 : p * q⁻¹ = p / q := (Rat.div_def p q).symm
  have F1 := fun V v h => hid (f_Inv V v q h h0)
  have F2 := fun V v u hv hu => hid (f_Mul V v u p q⁻¹ hv hu h1 h2 (by rw [(inv_num h0).2.1]; exact h4) (by rw [(inv_num h0).2.2]; exact h3))
  rw [e1] at F2
  obtain ⟨Q, hQ⟩ : ∃ Q, p / q = Q := ⟨_, rfl⟩
  rw [hQ] at F2 ⊢
  have HP := hid hp; have HQ' := hid hq
  obtain ⟨N1, D1, rfl, hn1, hd1⟩ := hp.ex
  obtain ⟨N2, D2, rfl, hn2, hd2⟩ := hq.ex
  obtain ⟨a1, c1, rfl, _⟩ := hn1.openI
  obtain ⟨a2, c2, rfl, _⟩ := hd1.openI
  obtain ⟨a3, c3, rfl, _⟩ := hn2.openI
  obtain ⟨a4, c4, rfl, _⟩ := hd2.openI
  clear hp hq hQ e1 hn1 hd1 hn2 hd2 h0 h1 h2 h3 h4
  obtain ⟨m1, hm1⟩ : ∃ m, decide (p.num < 0) = m := ⟨_, rfl⟩
  obtain ⟨m2, hm2⟩ : ∃ m, decide (q.num < 0) = m := ⟨_, rfl⟩
  obtain ⟨l1, hl1⟩ : ∃ m, (limbs p.num.natAbs).length = m := ⟨_, rfl⟩
  obtain ⟨l2, hl2⟩ : ∃ m, (limbs p.den).length = m := ⟨_, rfl⟩
  obtain ⟨l3, hl3⟩ : ∃ m, (limbs q.num.natAbs).length = m := ⟨_, rfl⟩
  obtain ⟨l4, hl4⟩ : ∃ m, (limbs q.den).length = m := ⟨_, rfl⟩
  rw [hm1, hl1, hl2] at HP
  rw [hm2, hl3, hl4] at HQ'
  rw [hm1, hm2, hl1, hl2, hl3, hl4]
  clear hm1 hm2 hl1 hl2 hl3 hl4
  go_enter Tryz.func46, Tryz.ntmps46
  go_wp2_with fail
  obtain ⟨W, hW⟩ : ∃ W, ((w.alloc (.cells #[.bool m1, .slice a1 l1 c1, .slice a2 l2 c2] 57)).alloc (.cells #[.bool m2, .slice a3 l3 c3, .slice a4 l4 c4] 57)).alloc (.cells #[.bool false, .slice none 0 0, .slice none 0 0] 57) = W := ⟨_, rfl⟩
  have T := hid (Three.mk' hW)
  rw [hW]
  clear hW
  have hS := T.out.cells (Below.refl _ _).drew
  have B0 := hid (T.out.below.drew)
  have C0 := hid ((Below.refl W.heap.size W).drew)
  refine held_plain [0, 1] 3 (twoF w.heap.size m1 m2 (.slice a1 l1 c1) (.slice a2 l2 c2) (.slice a3 l3 c3) (.slice a4 l4 c4)) (by kernel_rfl) (by kernel_rfl) (by kernel_rfl) (by kernel_rfl) hS ?_
  iterate 2
    refine ⟨_, rfl, ?_⟩
    apply Exists.intro
    refine ⟨.inl ⟨by rfl, ?_⟩, ?_⟩
    · (intro W' hW'; obtain ⟨q1, q2, q3, q4, q5, q6⟩ := hW'; go_simp; try (with_reducible rfl))
    (dsimp only [Act.put]; try simp only [List.setIfInBounds_toArray, List.set_cons_zero, List.set_cons_succ])
  clear hS
  refine held_one (i := 2) (by kernel_rfl) (by rfl) (by rfl) ?_
  go_wp2_with fail
  refine (F1 _ _ (HQ'.out.call B0.out)).out.mono ?_; rintro e w1 ⟨⟨v1, rfl, hv1⟩, hb1⟩
  have B1 := hid (B0.out.trans (hb1.mono B0.out.size)); have C1 := hid (bnext C0.out hb1); have V1 := hid hv1
  clear hb1 hv1
  go_wp2_with fail
  refine ⟨T.out.cells C1.out, ?_⟩
  refine held_one (i := 3) (by kernel_rfl) (by rfl) (by rfl) ?_
  go_wp2_with fail
  refine (F2 _ _ _ (HP.out.call B1.out) V1.out).out.mono ?_; rintro e w3 ⟨⟨v3, rfl, hv3⟩, hb3⟩
  have B3 := hid (B1.out.trans (hb3.mono B1.out.size)); have C3 := hid (bnext C1.out hb3)
  clear hb3
  obtain ⟨N3, D3, rfl, hN3, hD3⟩ := hv3.ex
  obtain ⟨a5, c5, rfl, _⟩ := hN3.openI
  obtain ⟨a6, c6, rfl, _⟩ := hD3.openI
  obtain ⟨k5, hk5⟩ : ∃ k, (limbs Q.num.natAbs).length = k := ⟨_, rfl⟩
  obtain ⟨k6, hk6⟩ : ∃ k, (limbs Q.den).length = k := ⟨_, rfl⟩
  obtain ⟨mq, hmq⟩ : ∃ m, decide (Q.num < 0) = m := ⟨_, rfl⟩
  rw [hk5] at hN3 ⊢
  rw [hk6] at hD3 ⊢
  rw [hmq]
  have HN3 := hid hN3; have HD3 := hid hD3; have HMQ := hid hmq
  have Z := hid (T.out.b2.call C3.out)
  have t0 := Z.out.cell 0
  have t1 := Z.out.cell 1
  have t2 := Z.out.cell 2
  have t3 := Z.out.free 0
  have t4 := Z.out.free 1
  have t5 := Z.out.free 2
  simp at t0 t1 t2
  clear hv3 hN3 hD3 hk5 hk6 hmq
  go_wp2_with fail
  refine ⟨T.out.cells C3.out, ?_⟩
  refine held_one (i := 4) (by kernel_rfl) (by rfl) (by rfl) ?_
  go_wp2_with fail
  refine ⟨T.out.stored C3.out _ _ _, ?_⟩
  refine wpAnyH_done (by kernel_rfl) ?_ _
  simp only [Only]
  obtain ⟨s1, s2⟩ := set3 Z.out mq a5 a6 k5 c5 k6 c6
  have f0 := s2.cell 0
  have f1 := s2.cell 1
  have f2 := s2.cell 2
  simp at f0 f1 f2
  clear t0 t1 t2 t3 t4 t5
  go_wp2_with fail
  refine bodyPost_ret (v := .agg #[.bool mq, .slice a5 k5 c5, .slice a6 k6 c6]) (by simp [results, Tryz.results46, go_sem, f0, f1, f2]) rfl ⟨⟨_, rfl, ⟨.slice a5 k5 c5, .slice a6 k6 c6, by rw [HMQ.out], s1 _ _ _ HN3.out, s1 _ _ _ HD3.out⟩⟩, ?_⟩
  exact ((B3.out.setCell (by simp; omega) _).setCell (by simp; omega) _).setCell (by simp; omega) _
end Go.Proofs.YtlimaehdmcnjaaaGreatDoor
namespace Go.Proofs.YtlimaehdmcnjaaaGreatDoor
open Go.RowKit
variable {P : Program} {ops : Array Oper} {Q : Exit → Act → World → Prop} {md : Region.Mode}
theorem held_op {S : World → Prop} {i : Nat} {o : Oper} {fuel : Nat} {listed : Array Bool} {a : Act} {w : World} (ho : ops[i]? = some o) (hg : o.guard = none)
    (h : wpList P ops (ThenH P md ops (Only Q) S fuel (listed.setIfInBounds i true)) [o] a w) : wpOp P ops (Only Q) i (fun a' w' => S w' ∧ wpAnyH P md ops (Only Q) S fuel (listed.setIfInBounds i true) a' w') a w := by
  unfold wpOp
  rw [ho]
  have hw : Region.wanted o (yielded ops a.tmps) = true := by simp [Region.wanted, hg]
  simp only [hw, if_true]
  unfold wpList at h
  rw [if_pos hw] at h
  rcases h with h | ⟨_, _, _, h⟩
  · left
    unfold Oper.wp at *
    generalize (execOp a.eval o).run P w = r at *
    cases r with
    | ok m w' =>
      cases m <;> simp only [Oper.upon] at h ⊢
      case value u => exact h
      case skip => exact h
      case defer d => exact h
      case enter f args =>
        refine Calls.mono h fun e w'' he => ?_
        cases e with
        | returned u => exact he
        | panicked c => exact he.elim
        | outgrown => obtain ⟨_, _, hx⟩ := he; exact hx.elim
      case row row args => exact h
    | halt x w' =>
      cases x <;> simp only [Oper.upon] at h ⊢
      case panic u => exact h.elim
  · exact h.elim
theorem held_two {S : World → Prop} {i j : Nat} {oi oj : Oper} {fuel : Nat} {listed : Array Bool} {a : Act} {w : World} (hr : Region.ready md ops listed = [i, j]) (hi : ops[i]? = some oi) (hj : ops[j]? = some oj) (hgi : oi.guard = none) (hgj : oj.guard = none)
    (h1 : wpList P ops (ThenH P md ops (Only Q) S fuel (listed.setIfInBounds i true)) [oi] a w)
    (h2 : wpList P ops (ThenH P md ops (Only Q) S fuel (listed.setIfInBounds j true)) [oj] a w) : wpAnyH P md ops (Only Q) S (fuel + 1) listed a w := by
  refine wpAnyH_all hr (by simp) fun k hk => ?_
  rcases List.mem_cons.1 hk with rfl | hk
  · exact held_op hi hgi h1
  · obtain rfl : k = j := by simpa using hk
    exact held_op hj hgj h2
end Go.Proofs.YtlimaehdmcnjaaaGreatDoor
namespace Go.Proofs.YtlimaehdmcnjaaaGreatDoor
open Go.RowKit Go.Shelf
open Go.Lib (decDigits nDigits)
set_option linter.unusedVariables false
set_option linter.unusedSimpArgs false
theorem isQ_putU {w : World} {b : Nat} {m0 : Bool} {a0 b0 : Option Addr} {n0 c0 n1 c1 : Nat} {t : TypeId} (hb : Blk w b #[.bool m0, .slice a0 n0 c0, .slice b0 n1 c1] t) (m : Bool) (a a' : Option Addr) (n c n' c' : Nat) {v : Value} {q : Rat} (h : IsQ .u64 w v q) :
    IsQ .u64 (((w.setCell ⟨b, 0, none⟩ (.bool m)).setCell ⟨b, 1, none⟩ (.slice a n c)).setCell ⟨b, 2, none⟩ (.slice a' n' c')) v q := by
  obtain ⟨N, D, rfl, h1, h2⟩ := h.ex
  have hs := (set3 hb m a a' n c n' c').1
  exact ⟨N, D, rfl, hs _ _ _ h1, hs _ _ _ h2⟩
set_option maxRecDepth 100000 in
set_option maxHeartbeats 2000000 in
theorem f_Must (w : World) (s : ByteArray) (hs : s.size ≤ 1000000) (hq : qE s = 0) (hL : Lay w) :
    Calls Tryz.prog 67 #[.string s] w fun e w' => RetQ .u64 (vQ s) e w' ∧ Below w.heap.size w w' := by
  have HP := fun V hV => hid (f_Parse V s hs hV)
  rw [hq] at HP
  have HQ := hid hq; have HL := hid hL
  have A0 := hid ((Below.refl w.heap.size w).alloc (Nat.le_refl _) (.cells #[.bool false, .slice none 0 0, .slice none 0 0] 57))
  have X0 := hid (Blk.new w #[.bool false, .slice none 0 0, .slice none 0 0] 57)
  clear hs hq hL
  go_enter Tryz.func67, Tryz.ntmps67
  go_wp2_with fail
  refine (HP _ (HL.out.call A0.out)).out.mono ?_; rintro e w1 ⟨⟨v1, rfl, hv1, -⟩, hb1⟩
  have iq := isQ_of HQ.out (hv1 rfl)
  obtain ⟨m1, a1, n1, c1, a2, n2, c2, rfl⟩ := iq.qv
  have X1 := hid (X0.out.call hb1)
  have y1 := hid (bnext A0.out hb1)
  have A1 := hid ((Below.refl w1.heap.size w1).alloc (Nat.le_refl _) (.cells #[.bool m1, .slice a1 n1 c1, .slice a2 n2 c2] 57))
  have Z1 := hid (Blk.new w1 #[.bool m1, .slice a1 n1 c1, .slice a2 n2 c2] 57)
  have X2 := hid (X1.out.call A1.out)
  have y2 := hid (bnext y1.out A1.out)
  have Q2 := hid (iq.call A1.out)
  clear hb1 hv1 X1 y1 iq
  have d0 := X2.out.cell 0
  have d1 := X2.out.cell 1
  have d2 := X2.out.cell 2
  have e0 := X2.out.free 0
  have e1 := X2.out.free 1
  have e2 := X2.out.free 2
  have g0 := Z1.out.cell 0
  have g1 := Z1.out.cell 1
  have g2 := Z1.out.cell 2
  simp at d0 d1 d2 g0 g1 g2
  go_wp2_with fail
  obtain ⟨s1, s2⟩ := set3 X2.out m1 a1 a2 n1 c1 n2 c2
  have f0 := s2.cell 0
  have f1 := s2.cell 1
  have f2 := s2.cell 2
  simp at f0 f1 f2
  refine bodyPost_ret (v := .agg #[.bool m1, .slice a1 n1 c1, .slice a2 n2 c2]) (by simp [results, Tryz.results67, go_sem, f0, f1, f2]) rfl ⟨⟨_, rfl, isQ_putU X2.out m1 a1 a2 n1 c1 n2 c2 Q2.out⟩, ?_⟩
  exact ((y2.out.setCell (Nat.le_refl _) _).setCell (Nat.le_refl _) _).setCell (Nat.le_refl _) _
set_option maxRecDepth 100000 in
set_option maxHeartbeats 2000000 in
theorem f_OfN (w : World) (v : Value) (n : Nat) (hv : IsN .u64 w v n) : Calls Tryz.prog 103 #[v] w fun e w' => RetQ .u64 ((n : Nat) : Rat) e w' ∧ Below w.heap.size w w' := by
  have V0 := hid hv
  have A0 := hid ((Below.refl w.heap.size w).alloc (Nat.le_refl _) (.cells #[.bool false, .slice none 0 0, .slice none 0 0] 57))
  have X0 := hid (Blk.new w #[.bool false, .slice none 0 0, .slice none 0 0] 57)
  obtain ⟨a1, c1, rfl, _⟩ := hv.openI
  obtain ⟨kn, hkn⟩ : ∃ k, (limbs n).length = k := ⟨_, rfl⟩
  rw [hkn] at V0 ⊢
  clear hv hkn
  go_enter Tryz.func103, Tryz.ntmps103
  go_wp2_with fail
  refine (l_Of _ 1 (by omega)).mono ?_; rintro e w1 ⟨⟨v1, rfl, hv1⟩, hb1⟩
  obtain ⟨a3, c3, rfl, _⟩ := hv1.openI
  obtain ⟨k1, hk1⟩ : ∃ k, (limbs 1).length = k := ⟨_, rfl⟩
  rw [hk1] at hv1 ⊢
  have HV := hid hv1
  have V1 := hid ((V0.out.call A0.out).call hb1)
  have HB := hid (X0.out.call hb1)
  have d0 := HB.out.cell 0
  have d1 := HB.out.cell 1
  have d2 := HB.out.cell 2
  have e0 := HB.out.free 0
  have e1 := HB.out.free 1
  have e2 := HB.out.free 2
  have HBB := hid (bnext A0.out hb1)
  clear hb1 hv1 hk1
  simp at d0 d1 d2
  go_wp2_with fail
  obtain ⟨s1, s2⟩ := set3 HB.out false a1 a3 kn c1 k1 c3
  have f0 := s2.cell 0
  have f1 := s2.cell 1
  have f2 := s2.cell 2
  simp at f0 f1 f2
  have hnum : (((n : Nat) : Rat).num.natAbs) = n := by rw [Rat.num_natCast]; rfl
  have hneg : decide (((n : Nat) : Rat).num < 0) = false := by rw [Rat.num_natCast]; exact decide_eq_false (by omega)
  refine bodyPost_ret (v := .agg #[.bool false, .slice a1 kn c1, .slice a3 k1 c3]) (by simp [results, Tryz.results103, go_sem, f0, f1, f2]) rfl ⟨⟨_, rfl, ⟨.slice a1 kn c1, .slice a3 k1 c3, by rw [hneg], by rw [hnum]; exact s1 _ _ _ V1.out, by rw [Rat.den_natCast]; exact s1 _ _ _ HV.out⟩⟩, ?_⟩
  exact ((HBB.out.setCell (Nat.le_refl _) _).setCell (Nat.le_refl _) _).setCell (Nat.le_refl _) _
end Go.Proofs.YtlimaehdmcnjaaaGreatDoor
namespace Go.Proofs.YtlimaehdmcnjaaaGreatDoor
open Go.RowKit Go.Shelf
open Go.Lib (decDigits nDigits)
set_option linter.unusedVariables false
set_option linter.unusedSimpArgs false
set_option maxRecDepth 100000 in
set_option maxHeartbeats 4000000 in
theorem li_vector (w : World) (v : Value) (l : List ByteArray) (hv : Row w v (strs l)) (hs : ∀ s ∈ l, s.size ≤ 1000000) (hL : Lay w) :
    Calls Tryz.prog 148 #[v] w fun e w' => (∃ u, e = .returned (.tuple #[u, .int .i64 (vecE l)]) ∧ (vecE l = 0 → VRow w.heap.size w' u (l.map vQ)) ∧ (vecE l ≠ 0 → u = .slice none 0 0)) ∧ Below w.heap.size w w' := by
  obtain ⟨i0, hi, hz0, hz1, hz2⟩ := info_parts info_fr
  have HP := fun V s hs hV => hid (f_Parse V s hs hV)
  have HV := hid hv; have HS := hid hs; have HL := hid hL
  obtain ⟨a, c, rfl, c1, c2, c3⟩ := hv.openS
  have H3 := hid c3
  obtain ⟨N, hN⟩ : ∃ n, l.length = n := ⟨_, rfl⟩
  have HN := hid hN
  rw [hN] at HV c1 ⊢
  by_cases h0 : N = 0
  · subst h0
    have e1 : vecE l = 3 := by unfold vecE; rw [if_pos hN]
    rw [e1]
    clear hv hs hL c3 hN
    go_enter Tryz.func148, Tryz.ntmps148
    go_wp2_with fail
    go_ret2
    exact ⟨⟨_, rfl, fun e => by simp at e, fun _ => rfl⟩, Below.refl _ _⟩
  have q0 : ((N : Int) == 0) = false := by rw [beq_eq_false_iff_ne]; omega
  have q0' : (N == 0) = false := by rw [beq_eq_false_iff_ne]; omega
  by_cases h64 : 64 < N
  · have e1 : vecE l = 4 := by unfold vecE; rw [if_neg (by omega), if_pos (by omega)]
    have q1 : decide ((64 : Int) < (N : Int)) = true := decide_eq_true (by omega)
    rw [e1]
    clear hv hs hL c3 hN h0 h64
    go_enter Tryz.func148, Tryz.ntmps148
    go_wp2_with fail
    go_ret2
    exact ⟨⟨_, rfl, fun e => by simp at e, fun _ => rfl⟩, Below.refl _ _⟩
  have q1 : decide ((64 : Int) < (N : Int)) = false := decide_eq_false (by omega)
  have HE := hid (show vecE l = errL l from vecE_is (by omega) (by omega))
  have HNN := hid h64
  rw [HE.out]
  clear hv hs hL c3 hN h0 h64
  go_enter Tryz.func148, Tryz.ntmps148
  go_wp2_with fail
  go_loopw [4, 6, 7, 8, 19] (fun s4 s6 s7 s8 s19 wr => ∃ i : Nat, s19 = .int .i64 (i : Nat) ∧ i ≤ N ∧ Hid (errL (l.take i) = 0) ∧ Hid (VRow w.heap.size wr s4 ((l.take i).map vQ)) ∧ Hid (Below w.heap.size w wr)) (fun s4 s6 s7 s8 s19 wr => N - (intOf s19).toNat)
  case atStart => exact ⟨0, rfl, Nat.zero_le _, rfl, VRow.nil _ _, Below.refl _ _⟩
  case round =>
    obtain ⟨i, rfl, hi', hE, hO, hB⟩ := hrel
    by_cases hlt : i < N
    · obtain ⟨s, hs⟩ : ∃ s, l[i]? = some s := ⟨_, List.getElem?_eq_getElem (by rw [HN.out]; exact hlt)⟩
      obtain ⟨g, o, rfl, hg, hc⟩ := H3.out i s hs
      have hc2 := (hB.out.cell (p := ⟨g, o + i, none⟩) hg).trans hc
      have b1 : (0 : Int) ≤ (i : Int) := by omega
      have b2 : (i : Int) < (N : Int) := by omega
      have wi : IntKind.i64.wrap ((i : Int) + 1) = ((i + 1 : Nat) : Int) := by have := HNN.out; rw [IntWalk.i64_in _ ⟨by omega, by omega⟩]; omega
      have HLT := hid hlt; have HG := hid hs
      have hss := HS.out s (List.mem_of_getElem? hs)
      have PP := fun V hV => hid (f_Parse V s hss hV)
      clear hc hg hi' hss hs
      by_cases hq : qE s = 0
      · have HQ := hid hq
        rw [hq] at PP
        clear hq hlt
        go_wp2_with fail
        refine (PP _ (HL.out.call hB.out)).out.mono ?_; rintro e w1 ⟨⟨v1, rfl, hv1, -⟩, hb1⟩
        have iq := isQ_of HQ.out (hv1 rfl)
        obtain ⟨m1, a1, n1, c1', a2, n2, c2', rfl⟩ := iq.qv
        have Q1 := hid iq
        have A1 := hid ((Below.refl w1.heap.size w1).alloc (Nat.le_refl _) (.cells #[.bool m1, .slice a1 n1 c1', .slice a2 n2 c2'] 57))
        have A2 := hid (A1.out.alloc A1.out.size (.cells #[.bool m1, .slice a1 n1 c1', .slice a2 n2 c2'] 57))
        have Z2 := hid (show Blk ((w1.alloc (.cells #[.bool m1, .slice a1 n1 c1', .slice a2 n2 c2'] 57)).alloc (.cells #[.bool m1, .slice a1 n1 c1', .slice a2 n2 c2'] 57)) (w1.heap.size + 1) #[.bool m1, .slice a1 n1 c1', .slice a2 n2 c2'] 57 from Blk.made _ _ _ (by simp))
        have x2 := hid (hb1.trans (A2.out.mono hb1.size))
        have y2 := hid (bnext hB.out x2.out)
        obtain ⟨cs, hk, hQL⟩ := (hO.out.call x2.out).ex
        have HK := hid hk; have HQL := hid hQL
        have HCL : Hid (cs.length = i) := by show _ = _; rw [hQL.len, List.length_map, List.length_take, HN.out]; have := HLT.out; omega
        have QC2 := hid (QC.of (Q1.out.call A2.out))
        have BSZ := hid (show w.heap.size ≤ ((w1.alloc (.cells #[.bool m1, .slice a1 n1 c1', .slice a2 n2 c2'] 57)).alloc (.cells #[.bool m1, .slice a1 n1 c1', .slice a2 n2 c2'] 57)).heap.size from y2.out.size)
        clear hb1 hv1 hk hQL iq
        go_wp2_with (at_builtin; refine wpList_append_krow _ .u64 rfl _ _ 53 rfl w.heap.size 57 i0 (.agg #[.bool false, .slice none 0 0, .slice none 0 0]) 3 56 Tryz.underlying53 hi hz0 hz1 hz2 rfl (by decide) noz_fr _ cs rfl HK.out ⟨w1.heap.size + 1, 0, none⟩ 1 1 [[.bool m1, .slice a1 n1 c1', .slice a2 n2 c2']] rfl rfl (len3 _ _ _) (news3 Z2.out) (one3 _ _ _ _ _ _ _) (nok3 _ _ _ _ _ _ _) (by rw [HCL.out]; have := HNN.out; have := HLT.out; unfold maxLen; omega) (by rw [HCL.out]; have := HNN.out; have := HLT.out; omega) BSZ.out ?_
                     intro v' w3 hown hgrow hkeep hat
                     have O3 := hid (show VRow w.heap.size w3 v' ((l.take (i + 1)).map vQ) by rw [List.take_add_one, HG.out, Option.toList_some, List.map_append]; exact VRow.app HQL.out hown hkeep QC2.out)
                     have B3 := hid (krow_below HK.out y2.out hgrow)
                     clear hown hgrow hkeep hat)
        go_roundw
        case rel => exact ⟨i + 1, by go_num, by have := HLT.out; omega, hid (errL_snoc hE.out HG.out HQ.out), O3, B3⟩
        case measure => simp [intOf] <;> (have := HLT.out; omega)
      · have HQ := hid hq
        have hel := errL_take hE.out HG.out HQ.out
        have t2 : (qE s == 0) = false := by simpa using hq
        have t3 : (qE s != 0) = true := by simpa using hq
        obtain ⟨E, hEE⟩ : ∃ x, qE s = x := ⟨_, rfl⟩
        rw [hEE] at PP hel t2 t3 HQ
        have HEL := hid hel
        clear hq hlt hEE hel
        go_wp2_with fail
        refine (PP _ (HL.out.call hB.out)).out.mono ?_; rintro e w1 ⟨⟨v1, rfl, -, hv1⟩, hb1⟩
        obtain rfl := hv1 HQ.out
        have y1 := hid (bnext hB.out hb1)
        have y2 := hid (y1.out.alloc y1.out.size (.cells #[.bool false, .slice none 0 0, .slice none 0 0] 57))
        clear hb1 hv1
        go_wp2_with fail
        go_ret2
        exact ⟨⟨.slice none 0 0, by rw [HEL.out]; rfl, fun e => absurd (HEL.out.symm.trans e) HQ.out, fun _ => rfl⟩, y2.out⟩
    · obtain rfl : i = N := by omega
      have hT : l.take i = l := List.take_of_length_le (by rw [HN.out]; exact Nat.le_refl _)
      rw [hT] at hE hO
      have q9 : decide ((i : Int) < (i : Int)) = false := by simp
      have HEL := hid hE.out
      clear hlt hT hi'
      obtain ⟨a9, c9, rfl, -, -⟩ := hO.out.slice
      go_wp2_with fail
      go_ret2
      exact ⟨⟨_, by rw [HEL.out]; rfl, fun _ => hO.out, fun e => absurd HEL.out e⟩, hB.out⟩
set_option maxRecDepth 100000 in
set_option maxHeartbeats 1000000 in
theorem li_Vector (w : World) (v : Value) (l : List ByteArray) (hv : Row w v (strs l)) (hs : ∀ s ∈ l, s.size ≤ 1000000) (hL : Lay w) :
    Calls Tryz.prog 107 #[v] w fun e w' => e = .returned (.int .i64 (vecE l)) ∧ Below w.heap.size w w' := by
  have HP := hid (li_vector w v l hv hs hL)
  obtain ⟨a, c, rfl, -, -, -⟩ := hv.openS
  clear hv hs hL
  go_enter Tryz.func107, Tryz.ntmps107
  go_wp2_with fail
  refine HP.out.mono ?_; rintro e w1 ⟨⟨u, rfl, -, -⟩, hb1⟩
  have y1 := hid hb1
  clear hb1
  go_wp2_with fail
  go_ret
  exact ⟨rfl, y1.out⟩
set_option maxRecDepth 100000 in
set_option maxHeartbeats 4000000 in
theorem s_read (w : World) (v : Value) (l : List ByteArray) (hv : Row w v (strs l)) (hs : ∀ s ∈ l, s.size ≤ 1000000) (hL : Lay w) :
    Calls Tryz.prog 51 #[v] w fun e w' => (∃ u, e = .returned (.tuple #[u, .int .i64 (vecE l)]) ∧ (vecE l = 0 → VRow w.heap.size w' u (l.map vQ)) ∧ (vecE l ≠ 0 → u = .slice none 0 0)) ∧ Below w.heap.size w w' := by
  obtain ⟨i0, hi, hz0, hz1, hz2⟩ := info_parts info_fr
  have HP := hid (li_Vector w v l hv hs hL)
  have HM := fun V s hs hq hV => hid (f_Must V s hs hq hV)
  have HV := hid hv; have HS := hid hs; have HL := hid hL
  obtain ⟨a, c, rfl, c1, c2, c3⟩ := hv.openS
  have H3 := hid c3
  obtain ⟨N, hN⟩ : ∃ n, l.length = n := ⟨_, rfl⟩
  have HN := hid hN
  rw [hN] at HV c1 HP ⊢
  by_cases h0 : vecE l = 0
  case neg =>
    have t2 : (vecE l == 0) = false := by simpa using h0
    have t3 : (vecE l != 0) = true := by simpa using h0
    obtain ⟨E, hE⟩ : ∃ x, vecE l = x := ⟨_, rfl⟩
    rw [hE] at HP t2 t3 h0 ⊢
    have H0 := hid h0
    clear hv hs hL c3 hN h0 hE
    go_enter Tryz.func51, Tryz.ntmps51
    go_wp2_with fail
    refine HP.out.mono ?_; rintro e w1 ⟨rfl, hb1⟩
    have y1 := hid hb1
    clear hb1
    go_wp2_with fail
    go_ret2
    exact ⟨⟨_, rfl, fun e => absurd e H0.out, fun _ => rfl⟩, y1.out⟩
  case pos =>
    obtain ⟨h1, h2, h3⟩ := vecE_ok h0
    have HQ := hid h3
    have HNN := hid (show N ≤ 64 by omega)
    rw [h0] at HP ⊢
    clear hv hs hL c3 hN h0 h1 h2 h3
    go_enter Tryz.func51, Tryz.ntmps51
    go_wp2_with fail
    refine HP.out.mono ?_; rintro e w1 ⟨rfl, hb1⟩
    have y1 := hid hb1
    clear hb1
    go_wp2_with fail
    go_loopw [5, 7, 15] (fun s5 s7 s15 wr => ∃ i : Nat, s15 = .int .i64 (i : Nat) ∧ i ≤ N ∧ Hid (VRow w.heap.size wr s5 ((l.take i).map vQ)) ∧ Hid (Below w.heap.size w wr)) (fun s5 s7 s15 wr => N - (intOf s15).toNat)
    case atStart => exact ⟨0, rfl, Nat.zero_le _, VRow.nil _ _, y1⟩
    case round =>
      obtain ⟨i, rfl, hi', hO, hB⟩ := hrel
      by_cases hlt : i < N
      · obtain ⟨s, hs⟩ : ∃ s, l[i]? = some s := ⟨_, List.getElem?_eq_getElem (by rw [HN.out]; exact hlt)⟩
        obtain ⟨g, o, rfl, hg, hc⟩ := H3.out i s hs
        have hc2 := (hB.out.cell (p := ⟨g, o + i, none⟩) hg).trans hc
        have b1 : (0 : Int) ≤ (i : Int) := by omega
        have b2 : (i : Int) < (N : Int) := by omega
        have wi : IntKind.i64.wrap ((i : Int) + 1) = ((i + 1 : Nat) : Int) := by have := HNN.out; rw [IntWalk.i64_in _ ⟨by omega, by omega⟩]; omega
        have HLT := hid hlt; have HG := hid hs
        have hm := List.mem_of_getElem? hs
        have PM := fun V hV => hid (f_Must V s (HS.out s hm) (HQ.out s hm) hV)
        clear hc hg hi' hs hm hlt
        go_wp2_with fail
        refine (PM _ (HL.out.call hB.out)).out.mono ?_; rintro e w2 ⟨⟨v1, rfl, iq⟩, hb1⟩
        obtain ⟨m1, a1, n1, c1', a2, n2, c2', rfl⟩ := iq.qv
        have Q1 := hid iq
        have A1 := hid ((Below.refl w2.heap.size w2).alloc (Nat.le_refl _) (.cells #[.bool m1, .slice a1 n1 c1', .slice a2 n2 c2'] 57))
        have Z1 := hid (Blk.new w2 #[.bool m1, .slice a1 n1 c1', .slice a2 n2 c2'] 57)
        have x2 := hid (hb1.trans (A1.out.mono hb1.size))
        have y2 := hid (bnext hB.out x2.out)
        obtain ⟨cs, hk, hQL⟩ := (hO.out.call x2.out).ex
        have HK := hid hk; have HQL := hid hQL
        have HCL : Hid (cs.length = i) := by show _ = _; rw [hQL.len, List.length_map, List.length_take, HN.out]; have := HLT.out; omega
        have QC2 := hid (QC.of (Q1.out.call A1.out))
        have BSZ := hid (show w.heap.size ≤ (w2.alloc (.cells #[.bool m1, .slice a1 n1 c1', .slice a2 n2 c2'] 57)).heap.size from y2.out.size)
        clear hb1 hk hQL iq
        go_wp2_with (at_builtin; refine wpList_append_krow _ .u64 rfl _ _ 53 rfl w.heap.size 57 i0 (.agg #[.bool false, .slice none 0 0, .slice none 0 0]) 3 56 Tryz.underlying53 hi hz0 hz1 hz2 rfl (by decide) noz_fr _ cs rfl HK.out ⟨w2.heap.size, 0, none⟩ 1 1 [[.bool m1, .slice a1 n1 c1', .slice a2 n2 c2']] rfl rfl (len3 _ _ _) (news3 Z1.out) (one3 _ _ _ _ _ _ _) (nok3 _ _ _ _ _ _ _) (by rw [HCL.out]; have := HNN.out; have := HLT.out; unfold maxLen; omega) (by rw [HCL.out]; have := HNN.out; have := HLT.out; omega) BSZ.out ?_
                     intro v' w3 hown hgrow hkeep hat
                     have O3 := hid (show VRow w.heap.size w3 v' ((l.take (i + 1)).map vQ) by rw [List.take_add_one, HG.out, Option.toList_some, List.map_append]; exact VRow.app HQL.out hown hkeep QC2.out)
                     have B3 := hid (krow_below HK.out y2.out hgrow)
                     clear hown hgrow hkeep hat)
        go_roundw
        case rel => exact ⟨i + 1, by go_num, by have := HLT.out; omega, O3, B3⟩
        case measure => simp [intOf] <;> (have := HLT.out; omega)
      · obtain rfl : i = N := by omega
        have hT : l.take i = l := List.take_of_length_le (by rw [HN.out]; exact Nat.le_refl _)
        rw [hT] at hO
        have q9 : decide ((i : Int) < (i : Int)) = false := by simp
        clear hlt hT hi'
        obtain ⟨a9, c9, rfl, -, -⟩ := hO.out.slice
        go_wp2_with fail
        go_ret2
        exact ⟨⟨_, rfl, fun _ => hO.out, fun e => absurd rfl e⟩, hB.out⟩
end Go.Proofs.YtlimaehdmcnjaaaGreatDoor
namespace Go.Proofs.YtlimaehdmcnjaaaGreatDoor
open Go.RowKit Go.Shelf
open Go.Lib (decDigits nDigits)
set_option linter.unusedVariables false
set_option linter.unusedSimpArgs false
theorem ne_tl {x y : ByteArray} (h : ¬ x = y) : ¬ x.toList = y.toList := fun e => h (by
  rw [Lib.toList_data, Lib.toList_data] at e
  exact ba_ext e)
end Go.Proofs.YtlimaehdmcnjaaaGreatDoor
namespace Go.Proofs.YtlimaehdmcnjaaaGreatDoor
open Go.RowKit Go.Shelf
open Go.Lib (decDigits nDigits)
set_option linter.unusedVariables false
set_option linter.unusedSimpArgs false
theorem info_numO : (Tryz.prog.info? 23).map (fun i => (i.zero, i.size, i.bytes)) = some (some (.string ⟨#[]⟩), 1, 16) := by kernel_rfl
theorem strs_oneO (l : List ByteArray) : ∀ u ∈ strs l, u.oneCell' = true := by
  intro u hu
  obtain ⟨x, _, rfl⟩ := List.mem_map.1 hu
  rfl
set_option maxRecDepth 100000 in
set_option maxHeartbeats 1000000 in
theorem k_OwnSO (w : World) (v : Value) (l : List ByteArray) (hv : Row w v (strs l)) (hl : l.length ≤ 1000000) :
    Calls Tryz.prog 15 #[v] w fun e w' => (∃ u, e = .returned u ∧ w'.ownsRow w.heap.size 23 1 u l.length (strs l)) ∧ Below w.heap.size w w' := by
  obtain ⟨i0, hi, hz0, hz1, hz2⟩ := info_parts info_numO
  obtain ⟨a, c, rfl, q1, q2, q3⟩ := hv.ex
  rw [strs_length] at *
  have SRC : Hid (∀ j u, (strs l)[j]? = some u → ∃ ad, a = some ad ∧ (w.alloc (.cells #[] 23)).cell? (ad.add j) = some u) := fun j u hu => by
    obtain ⟨g, o, rfl, hg, hc⟩ := q3 j u hu
    refine ⟨_, rfl, ?_⟩
    rw [Addr.add_lit]
    exact (((Below.refl w.heap.size w).alloc (Nat.le_refl _) (.cells #[] 23)).cell (p := ⟨g, o + j, none⟩) hg).trans hc
  have HO := hid (show (w.alloc (.cells #[] 23)).ownsRow w.heap.size 23 1 (.slice (some ⟨w.heap.size, 0, none⟩) 0 0) 0 [] from World.ownsRow_made _ _ 0 (Nat.le_refl _) (by unfold maxLen; omega) rfl)
  have HB := hid ((Below.refl w.heap.size w).alloc (Nat.le_refl _) (.cells #[] 23))
  obtain ⟨n, hn⟩ : ∃ n, l.length = n := ⟨_, rfl⟩
  have HN := hid (show (strs l).length = n * 1 from by rw [strs_length, hn]; omega)
  rw [hn] at hl q1 ⊢
  clear hv q3 hn
  go_enter Tryz.func15, Tryz.ntmps15
  go_wp2_with (at_builtin; refine wpList_append_any rfl _ _ 22 rfl w.heap.size 23 i0 (.string ⟨#[]⟩) 1 16 Tryz.underlying22 hi hz0 hz1 hz2 rfl (by decide) (.slice (some ⟨w.heap.size, 0, none⟩) 0 0) 0 [] rfl HO.out (by intro e; cases e) a n c (strs l) rfl HN.out SRC.out (strs_oneO l) (by unfold maxLen; omega) (by omega) (by simp) ?_; intro v1 w1 hown1 hg1 hne1; have O1 := hid hown1; have G1 := hid hg1; clear hown1 hg1 hne1)
  go_ret
  refine ⟨⟨_, rfl, ?_⟩, owned_below HO.out HB.out G1.out⟩
  have := O1.out
  simpa using this
end Go.Proofs.YtlimaehdmcnjaaaGreatDoor
namespace Go.Proofs.YtlimaehdmcnjaaaGreatDoor
open Go.RowKit Go.Shelf
open Go.Lib (decDigits nDigits)
set_option linter.unusedVariables false
set_option linter.unusedSimpArgs false
def Lim (q : Rat) : Prop := (limbs q.num.natAbs).length ≤ 100000 ∧ (limbs q.den).length ≤ 100000
theorem Lim.of {K : Nat} {q : Rat} (h : Dig K q) (hK : K ≤ 900000) : Lim q := h.lim (L := 100000) (by omega)
theorem dig_zero0 : Dig 1 (0 : Rat) := ⟨by decide, by decide⟩
theorem dig_rs {K : Nat} : ∀ {l : List Rat}, (∀ q ∈ l, Dig K q) → Dig (K * l.length + l.length + 1) (rs l)
  | [], _ => by rw [rs]; exact dig_zero0.up (by omega)
  | q :: l, h => by
    rw [rs]
    refine (dig_add (h q (by simp)) (dig_rs fun p hp => h p (by simp [hp]))).up ?_
    rw [List.length_cons, Nat.mul_succ]
    omega
theorem dig_q4 {s : ByteArray} (h : qE s = 0) : Dig 4000 (vQ s) := by
  obtain ⟨h1, h2, h3, h4, h5, h6⟩ := valid h
  obtain ⟨-, e2, e3⟩ := vQ_ok h
  obtain ⟨K, hK⟩ : ∃ K, K = 4000 := ⟨_, rfl⟩
  rw [← hK] at h4 h5 ⊢
  exact ⟨by rw [e2]; exact lt_of_digits h4, by rw [e3]; exact lt_of_digits h5⟩
theorem dig_vqs {l : List ByteArray} (h : vecE l = 0) : ∀ q ∈ l.map vQ, Dig 4000 q := fun q hq => by
  obtain ⟨s, hs, rfl⟩ := List.mem_map.1 hq
  exact dig_q4 ((vecE_ok h).2.2 s hs)
def FB (w : World) (g : Nat) (q : Rat) : Prop := ∃ (m : Bool) (a : Option Addr) (n c : Nat) (a' : Option Addr) (n' c' : Nat), Blk w g #[.bool m, .slice a n c, .slice a' n' c'] 57 ∧ IsQ .u64 w (.agg #[.bool m, .slice a n c, .slice a' n' c']) q
theorem FB.call {w w' : World} {g : Nat} {q : Rat} (h : FB w g q) (hb : Below w.heap.size w w') : FB w' g q := by
  obtain ⟨m, a, n, c, a', n', c', h1, h2⟩ := h
  exact ⟨m, a, n, c, a', n', c', h1.call hb, h2.call hb⟩
theorem FB.new {w : World} {m : Bool} {a a' : Option Addr} {n c n' c' : Nat} {q : Rat} (h : IsQ .u64 w (.agg #[.bool m, .slice a n c, .slice a' n' c']) q) : FB (w.alloc (.cells #[.bool m, .slice a n c, .slice a' n' c'] 57)) w.heap.size q :=
  ⟨m, a, n, c, a', n', c', Blk.new w _ _, h.call ((Below.refl _ _).alloc (Nat.le_refl _) _)⟩
theorem FB.put {w : World} {b : Nat} {m0 : Bool} {a0 b0 : Option Addr} {n0 c0 n1 c1 : Nat} (hb : Blk w b #[.bool m0, .slice a0 n0 c0, .slice b0 n1 c1] 57) {m : Bool} {a a' : Option Addr} {n c n' c' : Nat} {q : Rat} (h : IsQ .u64 w (.agg #[.bool m, .slice a n c, .slice a' n' c']) q) :
    FB (((w.setCell ⟨b, 0, none⟩ (.bool m)).setCell ⟨b, 1, none⟩ (.slice a n c)).setCell ⟨b, 2, none⟩ (.slice a' n' c')) b q :=
  ⟨m, a, n, c, a', n', c', (set3 hb m a a' n c n' c').2, isQ_putU hb m a a' n c n' c' h⟩
theorem keep3 {w : World} {b : Nat} {m0 : Bool} {a0 b0 : Option Addr} {n0 c0 n1 c1 : Nat} {t : TypeId} (hb : Blk w b #[.bool m0, .slice a0 n0 c0, .slice b0 n1 c1] t) (m : Bool) (a a' : Option Addr) (n c n' c' : Nat) :
    KeepK .u64 w (((w.setCell ⟨b, 0, none⟩ (.bool m)).setCell ⟨b, 1, none⟩ (.slice a n c)).setCell ⟨b, 2, none⟩ (.slice a' n' c')) := by
  have n0 : NoK .u64 #[.bool m0, .slice a0 n0 c0, .slice b0 n1 c1] := fun i x h => NoInt.three _ _ _ _ _ _ _ i _ x h
  have h1 := hb.set 0 (.bool m)
  have h2 := h1.set 1 (.slice a n c)
  simp at h1 h2
  exact ((KeepK.set hb n0 0 _).trans (KeepK.set h1 (fun i x h => NoInt.three _ _ _ _ _ _ _ i _ x h) 1 _)).trans (KeepK.set h2 (fun i x h => NoInt.three _ _ _ _ _ _ _ i _ x h) 2 _)
theorem FB.keep {w w' : World} {g : Nat} {q : Rat} (h : FB w g q) (hk : KeepK .u64 w w') (hg : w'.heap[g]? = w.heap[g]?) : FB w' g q := by
  obtain ⟨m, a, n, c, a', n', c', h1, h2⟩ := h
  exact ⟨m, a, n, c, a', n', c', hg.trans h1, hk.isQ h2⟩
theorem FB.lt {w : World} {g : Nat} {q : Rat} (h : FB w g q) : g < w.heap.size := by
  obtain ⟨m, a, n, c, a', n', c', h1, h2⟩ := h
  exact h1.lt
set_option maxRecDepth 100000 in
set_option maxHeartbeats 2000000 in
theorem s_small (w : World) (n : Nat) (hn : n ≤ 1000000000000000) : Calls Tryz.prog 47 #[.int .i64 (n : Nat)] w fun e w' => RetQ .u64 ((n : Nat) : Rat) e w' ∧ Below w.heap.size w w' := by
  have A0 := hid ((Below.refl w.heap.size w).alloc (Nat.le_refl _) (.cells #[.bool false, .slice none 0 0, .slice none 0 0] 57))
  have X0 := hid (Blk.new w #[.bool false, .slice none 0 0, .slice none 0 0] 57)
  have wu : IntKind.u64.wrap (n : Int) = (n : Nat) := by unfold IntKind.wrap; simp [IntKind.bits, IntKind.signed]; omega
  have P1 := fun V => hid (l_Of V n (by omega))
  have P2 := fun V v hv => hid (f_OfN V v n hv)
  clear hn
  go_enter Tryz.func47, Tryz.ntmps47
  go_wp2_with fail
  refine (P1 _).out.mono ?_; rintro e w1 ⟨⟨v1, rfl, hv1⟩, hb1⟩
  have V1 := hid hv1
  have y1 := hid (bnext A0.out hb1)
  have X1 := hid (X0.out.call hb1)
  obtain ⟨a1, c1, rfl, _⟩ := hv1.openI
  clear hb1 hv1 A0 X0
  go_wp2_with fail
  refine (P2 _ _ V1.out).out.mono ?_; rintro e w2 ⟨⟨v2, rfl, hv2⟩, hb2⟩
  obtain ⟨m2, a2, n2, c2, b2, d2', e2', rfl⟩ := hv2.qv
  have Q2 := hid hv2
  have y2 := hid (bnext y1.out hb2)
  have X2 := hid (X1.out.call hb2)
  clear hb2 hv2
  have d0 := X2.out.cell 0
  have d1 := X2.out.cell 1
  have d2 := X2.out.cell 2
  have e0 := X2.out.free 0
  have e1 := X2.out.free 1
  have e2 := X2.out.free 2
  simp at d0 d1 d2
  go_wp2_with fail
  obtain ⟨s1, s2⟩ := set3 X2.out m2 a2 b2 n2 c2 d2' e2'
  have f0 := s2.cell 0
  have f1 := s2.cell 1
  have f2 := s2.cell 2
  simp at f0 f1 f2
  refine bodyPost_ret (v := .agg #[.bool m2, .slice a2 n2 c2, .slice b2 d2' e2']) (by simp [results, Tryz.results47, go_sem, f0, f1, f2]) rfl ⟨⟨_, rfl, isQ_putU X2.out m2 a2 b2 n2 c2 d2' e2' Q2.out⟩, ?_⟩
  exact ((y2.out.setCell (Nat.le_refl _) _).setCell (Nat.le_refl _) _).setCell (Nat.le_refl _) _
set_option maxRecDepth 100000 in
set_option maxHeartbeats 4000000 in
theorem s_sum (w : World) (B : Nat) (v : Value) (qs : List Rat) (hv : VRow B w v qs) (hl : qs.length ≤ 64) (hd : ∀ q ∈ qs, Dig 4000 q) :
    Calls Tryz.prog 60 #[v] w fun e w' => RetQ .u64 (rs qs) e w' ∧ Below w.heap.size w w' := by
  have HV := hid hv
  have HD := hid hd
  have LQ := hid (fun (i : Nat) => show Lim (rs (qs.take i)) from Lim.of ((dig_rs (K := 4000) fun q hq => hd q (List.mem_of_mem_take hq)).up (L := 300000) (by have h := List.length_take (i := i) (l := qs); omega)) (by omega))
  obtain ⟨a, c, rfl, c1, c2⟩ := hv.slice
  obtain ⟨N, hN⟩ : ∃ n, qs.length = n := ⟨_, rfl⟩
  have HN := hid hN; have HNN := hid (show N ≤ 64 by omega)
  rw [hN] at HV c1 ⊢
  have A0 := hid ((Below.refl w.heap.size w).alloc (Nat.le_refl _) (.cells #[.bool false, .slice none 0 0, .slice none 0 0] 57))
  have X0 := hid (Blk.new w #[.bool false, .slice none 0 0, .slice none 0 0] 57)
  clear hv hd hl hN
  go_enter Tryz.func60, Tryz.ntmps60
  go_wp2_with fail
  refine (f_Zero _).mono ?_; rintro e w1 ⟨⟨v1, rfl, hv1⟩, hb1⟩
  obtain ⟨m1, a1, n1, k1, a2, n2, k2, rfl⟩ := hv1.qv
  have X1 := hid (X0.out.call hb1)
  have y1 := hid (bnext A0.out hb1)
  have Q1 := hid (FB.new hv1)
  have A1 := hid ((Below.refl w1.heap.size w1).alloc (Nat.le_refl _) (.cells #[.bool m1, .slice a1 n1 k1, .slice a2 n2 k2] 57))
  clear hb1 hv1 X0 A0
  go_wp2_with fail
  go_loopw [5, 9] (fun s5 s9 wr => ∃ i : Nat, s9 = .int .i64 (i : Nat) ∧ i ≤ N ∧ Hid (FB wr w1.heap.size (rs (qs.take i))) ∧ Hid (Below w1.heap.size w1 wr)) (fun s5 s9 wr => N - (intOf s9).toNat)
  case atStart => exact ⟨0, rfl, Nat.zero_le _, Q1, A1⟩
  case round =>
    obtain ⟨i, rfl, hi, hQ, hB⟩ := hrel
    have BW := hid (bnext y1.out hB.out)
    by_cases hlt : i < N
    · obtain ⟨q, hq⟩ : ∃ q, qs[i]? = some q := ⟨_, List.getElem?_eq_getElem (by rw [HN.out]; exact hlt)⟩
      obtain ⟨g, mq, aq, nq, cq, aq', nq', cq', rfl, -, hg, k0, k1', k2', hQQ⟩ := (HV.out.call BW.out).at hq
      have QQ := hid hQQ
      have f1 : (0 : Int) ≤ (i : Int) := by omega
      have f2 : (i : Int) < (N : Int) := by omega
      have wi : IntKind.i64.wrap ((i : Int) + 1) = ((i + 1 : Nat) : Int) := by have := HNN.out; rw [IntWalk.i64_in _ ⟨by omega, by omega⟩]; omega
      have HLT := hid hlt
      have HRS := hid (rs_take_snoc hq)
      have LA := hid (Lim.of (HD.out q (List.mem_of_getElem? hq)) (by omega))
      have A2 := hid ((Below.refl wr.heap.size wr).alloc (Nat.le_refl _) (.cells #[.bool mq, .slice aq nq cq, .slice aq' nq' cq'] 57))
      obtain ⟨m5, a5, n5, c5, a6, n6, c6, hb5, hq5⟩ := hQ.out.call A2.out
      have B5 := hid hb5; have V5 := hid hq5
      have Q2 := hid (QQ.out.call A2.out)
      have b0 := B5.out.cell 0
      have b1 := B5.out.cell 1
      have b2 := B5.out.cell 2
      simp at b0 b1 b2
      clear hq hQQ hlt hi hb5 hq5 hQ hg
      go_wp2_with fail
      refine (f_Add _ _ _ _ _ V5.out Q2.out (LQ.out i).1 (LQ.out i).2 LA.out.1 LA.out.2).mono ?_; rintro e w6 ⟨⟨v6, rfl, hv6⟩, hb6⟩
      obtain ⟨m7, a7, n7, c7, a8, n8, c8, rfl⟩ := hv6.qv
      have x6 := hid (show Below wr.heap.size wr w6 from A2.out.trans (hb6.mono A2.out.size))
      have B6 := hid (B5.out.call hb6)
      have y6 := hid (bnext hB.out x6.out)
      rw [← HRS.out] at hv6
      have V6 := hid hv6
      have t0 := B6.out.cell 0
      have t1 := B6.out.cell 1
      have t2 := B6.out.cell 2
      have t3 := B6.out.free 0
      have t4 := B6.out.free 1
      have t5 := B6.out.free 2
      simp at t0 t1 t2
      have F6 := hid (FB.put B6.out V6.out)
      have y7 := hid (((y6.out.setCell (p := ⟨w1.heap.size, 0, none⟩) (Nat.le_refl _) (.bool m7)).setCell (p := ⟨w1.heap.size, 1, none⟩) (Nat.le_refl _) (.slice a7 n7 c7)).setCell (p := ⟨w1.heap.size, 2, none⟩) (Nat.le_refl _) (.slice a8 n8 c8))
      clear hb6 hv6
      go_wp2_with fail
      go_roundw
      case rel => exact ⟨i + 1, by go_num, by have := HLT.out; omega, F6, y7⟩
      case measure => simp [intOf] <;> (have := HLT.out; omega)
    · obtain rfl : i = N := by omega
      have hT : qs.take i = qs := List.take_of_length_le (by rw [HN.out]; exact Nat.le_refl _)
      rw [hT] at hQ
      obtain ⟨m5, a5, n5, c5, a6, n6, c6, hb5, hq5⟩ := hQ.out
      have b0 := hb5.cell 0
      have b1 := hb5.cell 1
      have b2 := hb5.cell 2
      simp at b0 b1 b2
      have Q5 := hid hq5
      have q9 : decide ((i : Int) < (i : Int)) = false := by simp
      have X5 := hid (X1.out.call hB.out)
      have d0 := X5.out.cell 0
      have d1 := X5.out.cell 1
      have d2 := X5.out.cell 2
      have e0 := X5.out.free 0
      have e1 := X5.out.free 1
      have e2 := X5.out.free 2
      simp at d0 d1 d2
      clear hb5 hq5 hT hlt hi
      go_wp2_with fail
      obtain ⟨s1, s2⟩ := set3 X5.out m5 a5 a6 n5 c5 n6 c6
      have g0 := s2.cell 0
      have g1 := s2.cell 1
      have g2 := s2.cell 2
      simp at g0 g1 g2
      refine bodyPost_ret (v := .agg #[.bool m5, .slice a5 n5 c5, .slice a6 n6 c6]) (by simp [results, Tryz.results60, go_sem, g0, g1, g2]) rfl ⟨⟨_, rfl, isQ_putU X5.out m5 a5 a6 n5 c5 n6 c6 Q5.out⟩, ?_⟩
      exact ((BW.out.setCell (Nat.le_refl _) _).setCell (Nat.le_refl _) _).setCell (Nat.le_refl _) _
end Go.Proofs.YtlimaehdmcnjaaaGreatDoor
namespace Go.Proofs.YtlimaehdmcnjaaaGreatDoor
open Go.RowKit
def zs (l : List Int) : List Value := l.map (Value.int .i64)
@[simp] theorem zs_length (l : List Int) : (zs l).length = l.length := by simp [zs]
theorem zs_get {l : List Int} {i : Nat} {x : Int} (h : l[i]? = some x) : (zs l)[i]? = some (.int .i64 x) := by simp [zs, h]
theorem Row.openZ {w : World} {v : Value} {l : List Int} (h : Row w v (zs l)) : ∃ a c, v = .slice a l.length c ∧ l.length ≤ c ∧ c ≤ 9223372036854775807 ∧ ∀ (i : Nat) (x : Int), l[i]? = some x → ∃ g o, a = some ⟨g, o, none⟩ ∧ g < w.heap.size ∧ w.cell? ⟨g, o + i, none⟩ = some (.int .i64 x) := by
  obtain ⟨a, c, rfl, h1, h2, h3⟩ := h.ex
  rw [zs_length] at *
  exact ⟨a, c, rfl, h1, by unfold maxLen at h2; omega, fun i x hx => h3 i _ (zs_get hx)⟩
end Go.Proofs.YtlimaehdmcnjaaaGreatDoor
namespace Go.Proofs.YtlimaehdmcnjaaaGreatDoor
open Go.RowKit Go.Shelf
set_option linter.unusedVariables false
set_option linter.unusedSimpArgs false
theorem ownsRow_keep {w w' : World} {base : Nat} {e : TypeId} {size : Nat} {v : Value} {n : Nat} {xs : List Value} (h : w.ownsRow base e size v n xs) (hb : ∀ g, v.ownBlock = some g → w'.heap[g]? = w.heap[g]?) : w'.ownsRow base e size v n xs := by
  refine ⟨h.1, ?_⟩
  rcases h.2 with h0 | ⟨g, cap, cur, rfl, h1, h2, h3⟩
  · exact .inl h0
  · exact .inr ⟨g, cap, cur, rfl, h1, (hb g rfl).trans h2, h3⟩
theorem news_blk {W : World} {g : Nat} {x : Value} {t : TypeId} (h : Blk W g #[x] t) : ∀ j u, [x][j]? = some u → W.cell? ((⟨g, 0, none⟩ : Addr).add j) = some u := fun j u hj => by
  match j, hj with
  | 0, hj =>
    simp at hj
    subst hj
    rw [Addr.add_lit]
    exact h.cell 0
end Go.Proofs.YtlimaehdmcnjaaaGreatDoor
namespace Go.Proofs.YtlimaehdmcnjaaaGreatDoor
open Go.RowKit Go.Shelf
open Go.Lib (decDigits nDigits)
set_option linter.unusedVariables false
set_option linter.unusedSimpArgs false
theorem VRow.other {B : Nat} {W W' : World} {v : Value} {qs : List Rat} (h : VRow B W v qs) (hk : KeepK .u64 W W') (hb : ∀ g, B ≤ g → g < W.heap.size → W'.heap[g]? = W.heap[g]?) : VRow B W' v qs := by
  obtain ⟨cs, h1, h2⟩ := h.ex
  exact ⟨cs, h1.keep fun g hg => hb g (h1.own.lt g hg).1 (h1.own.lt g hg).2, h2.keep hk⟩
theorem heap_set3 (W : World) (b : Nat) (x y z : Value) {g : Nat} (hg : g ≠ b) : (((W.setCell ⟨b, 0, none⟩ x).setCell ⟨b, 1, none⟩ y).setCell ⟨b, 2, none⟩ z).heap[g]? = W.heap[g]? := by
  rw [Below.heap_setCell _ _ _ _ hg, Below.heap_setCell _ _ _ _ hg, Below.heap_setCell _ _ _ _ hg]
theorem VRow.beside {B b : Nat} {W : World} {v : Value} {qs : List Rat} (h : VRow B W v qs) {m0 : Bool} {a0 b0 : Option Addr} {n0 c0 n1 c1 : Nat} {t : TypeId} (hb : Blk W b #[.bool m0, .slice a0 n0 c0, .slice b0 n1 c1] t) (hlt : b < B) (m : Bool) (a a' : Option Addr) (n c n' c' : Nat) :
    VRow B (((W.setCell ⟨b, 0, none⟩ (.bool m)).setCell ⟨b, 1, none⟩ (.slice a n c)).setCell ⟨b, 2, none⟩ (.slice a' n' c')) v qs :=
  h.other (keep3 hb m a a' n c n' c') fun g hg _ => heap_set3 _ _ _ _ _ (by omega)
theorem strs_snoc (l : List ByteArray) (x : ByteArray) : strs (l ++ [x]) = strs l ++ [.string x] := by simp [strs]
set_option maxRecDepth 100000 in
set_option maxHeartbeats 4000000 in
theorem s_write (w : World) (B : Nat) (v : Value) (qs : List Rat) (hv : VRow B w v qs) (hl : qs.length ≤ 64) (hd : ∀ q ∈ qs, Lim q) (hL : Lay w) :
    Calls Tryz.prog 48 #[v] w fun e w' => (∃ u, e = .returned (.tuple #[u, .int .i64 (wrE qs)]) ∧ Row w' u (strs (wrL qs))) ∧ Below w.heap.size w w' := by
  obtain ⟨i0, hi, hz0, hz1, hz2⟩ := info_parts info_numO
  have HV := hid hv
  have HD := hid hd
  have HL := hid hL
  obtain ⟨a, c, rfl, c1, c2⟩ := hv.slice
  obtain ⟨N, hN⟩ : ∃ n, qs.length = n := ⟨_, rfl⟩
  have HN := hid hN; have HNN := hid (show N ≤ 64 by omega)
  rw [hN] at HV c1 ⊢
  clear hv hd hl hN hL
  go_enter Tryz.func48, Tryz.ntmps48
  go_wp2_with fail
  go_loopw [4, 6, 7, 8, 11] (fun s4 s6 s7 s8 s11 wr => ∃ i : Nat, s11 = .int .i64 (i : Nat) ∧ i ≤ N ∧ Hid (wrE (qs.take i) = 0) ∧ Hid (wr.ownsRow w.heap.size 23 1 s4 i (strs ((qs.take i).map outB))) ∧ Hid (Below w.heap.size w wr)) (fun s4 s6 s7 s8 s11 wr => N - (intOf s11).toNat)
  case atStart => exact ⟨0, rfl, Nat.zero_le _, rfl, World.ownsRow_nil _ _ _ _, Below.refl _ _⟩
  case round =>
    obtain ⟨i, rfl, hi', hE, hO, hB⟩ := hrel
    by_cases hlt : i < N
    · obtain ⟨q, hq⟩ : ∃ q, qs[i]? = some q := ⟨_, List.getElem?_eq_getElem (by rw [HN.out]; exact hlt)⟩
      obtain ⟨g, mq, aq, nq, cq, aq', nq', cq', rfl, -, hg, k0, k1', k2', hQQ⟩ := (HV.out.call hB.out).at hq
      have QQ := hid hQQ
      have f1 : (0 : Int) ≤ (i : Int) := by omega
      have f2 : (i : Int) < (N : Int) := by omega
      have wi : IntKind.i64.wrap ((i : Int) + 1) = ((i + 1 : Nat) : Int) := by have := HNN.out; rw [IntWalk.i64_in _ ⟨by omega, by omega⟩]; omega
      have HLT := hid hlt; have HQ := hid hq
      have LA := hid (HD.out q (List.mem_of_getElem? hq))
      have A2 := hid ((Below.refl wr.heap.size wr).alloc (Nat.le_refl _) (.cells #[.bool mq, .slice aq nq cq, .slice aq' nq' cq'] 57))
      have Q2 := hid (QQ.out.call A2.out)
      have PN := fun V v hv hV => hid (f_Num V v q hv (Nat.le_trans LA.out.1 (by omega)) (Nat.le_trans LA.out.2 (by omega)) hV)
      clear hq hQQ hi' hg
      by_cases hq0 : outE q = 0
      · have HQ0 := hid hq0
        rw [hq0] at PN
        obtain ⟨T, hT⟩ : ∃ t, outB q = t := ⟨_, rfl⟩
        have HT := hid hT
        rw [hT] at PN
        clear hlt hq0 hT
        go_wp2_with fail
        refine (PN _ _ Q2.out (HL.out.call (bnext hB.out A2.out))).out.mono ?_; rintro e w2 ⟨rfl, hb2⟩
        have x2 := hid (A2.out.trans (hb2.mono A2.out.size))
        have y2 := hid (bnext hB.out x2.out)
        have O2 := hid (owns_call hO.out x2.out)
        have OA := hid (owns_call O2.out ((Below.refl _ _).alloc (Nat.le_refl _) (.cells #[.string T] 23)))
        have YA := hid (y2.out.alloc y2.out.size (.cells #[.string T] 23))
        have Z2 := hid (Blk.new w2 #[.string T] 23)
        clear hb2
        go_wp2_with (at_builtin; refine wpList_append_own_at _ rfl _ _ 22 rfl w.heap.size 23 i0 (.string ⟨#[]⟩) 1 16 Tryz.underlying22 hi hz0 hz1 hz2 rfl (by decide) _ i (strs ((qs.take i).map outB)) rfl OA.out ⟨w2.heap.size, 0, none⟩ 1 1 [.string T] rfl rfl (news_blk Z2.out) (by simp [Value.oneCell']) (by have := HNN.out; have := HLT.out; unfold maxLen; omega) (by have := HNN.out; have := HLT.out; omega) (by have := y2.out.size; simp; omega) ?_
                     intro v' w3 hown hgrow _ hat
                     have O3 := hid (show w3.ownsRow w.heap.size 23 1 v' (i + 1) (strs ((qs.take (i + 1)).map outB)) by rw [List.take_add_one, HQ.out, Option.toList_some, List.map_append, List.map_cons, List.map_nil, HT.out, strs_snoc]; exact hown)
                     have B3 := hid (owned_below OA.out YA.out hgrow)
                     clear hown hgrow hat)
        go_roundw
        case rel => exact ⟨i + 1, by go_num, by have := HLT.out; omega, hid (wrE_snoc hE.out HQ.out HQ0.out), O3, B3⟩
        case measure => simp [intOf] <;> (have := HLT.out; omega)
      · have HQ0 := hid hq0
        have hel := wrE_take hE.out HQ.out HQ0.out
        have t2 : (outE q == 0) = false := by simpa using hq0
        have t3 : (outE q != 0) = true := by simpa using hq0
        obtain ⟨E, hEE⟩ : ∃ x, outE q = x := ⟨_, rfl⟩
        rw [hEE] at PN hel t2 t3 HQ0
        have HEL := hid hel
        have HWR := hid (show wrL qs = [] by unfold wrL; rw [if_neg (by rw [hel]; exact HQ0.out)])
        clear hq0 hlt hEE hel
        go_wp2_with fail
        refine (PN _ _ Q2.out (HL.out.call (bnext hB.out A2.out))).out.mono ?_; rintro e w2 ⟨rfl, hb2⟩
        have x2 := hid (A2.out.trans (hb2.mono A2.out.size))
        have y2 := hid (bnext hB.out x2.out)
        clear hb2
        go_wp2_with fail
        go_ret2
        exact ⟨⟨.slice none 0 0, by rw [HEL.out]; rfl, by rw [HWR.out]; exact Row.nil _⟩, y2.out⟩
    · obtain rfl : i = N := by omega
      have hT : qs.take i = qs := List.take_of_length_le (by rw [HN.out]; exact Nat.le_refl _)
      rw [hT] at hE hO
      have q9 : decide ((i : Int) < (i : Int)) = false := by simp
      have HEL := hid hE.out
      have HWR := hid (show wrL qs = qs.map outB by unfold wrL; rw [if_pos hE.out])
      clear hlt hT hi'
      obtain ⟨a9, c9, rfl⟩ := owns_ex hO.out
      go_wp2_with fail
      go_ret2
      exact ⟨⟨_, by rw [HEL.out]; rfl, by rw [HWR.out]; exact Row.of_owns hO.out⟩, hB.out⟩
set_option maxRecDepth 100000 in
set_option maxHeartbeats 4000000 in
theorem s_both (w : World) (v : Value) (l : List ByteArray) (t : ByteArray) (hv : Row w v (strs l)) (hs : ∀ s ∈ l, s.size ≤ 1000000) (ht : t.size ≤ 1000000) (hL : Lay w) :
    Calls Tryz.prog 37 #[v, .string t] w fun e w' => (∃ u f, e = .returned (.tuple #[u, f, .int .i64 (btE l t)]) ∧ Qv f ∧ (btE l t = 0 → VRow w.heap.size w' u (l.map vQ) ∧ IsQ .u64 w' f (vQ t))) ∧ Below w.heap.size w w' := by
  have HR := fun V hV hL => hid (s_read V v l hV hs hL)
  have HP := fun V hV => hid (f_Parse V t ht hV)
  have HV := hid hv; have HL := hid hL
  obtain ⟨a, c, rfl, c1, c2, c3⟩ := hv.openS
  obtain ⟨N, hN⟩ : ∃ n, l.length = n := ⟨_, rfl⟩
  rw [hN] at HV HR c1 ⊢
  have A0 := hid ((Below.refl w.heap.size w).alloc (Nat.le_refl _) (.cells #[.bool false, .slice none 0 0, .slice none 0 0] 57))
  have X0 := hid (Blk.new w #[.bool false, .slice none 0 0, .slice none 0 0] 57)
  by_cases h0 : vecE l = 0
  case neg =>
    have e1 : btE l t = vecE l := by unfold btE; rw [if_neg h0]
    have t2 : (vecE l == 0) = false := by simpa using h0
    have t3 : (vecE l != 0) = true := by simpa using h0
    rw [e1]
    obtain ⟨E, hE⟩ : ∃ x, vecE l = x := ⟨_, rfl⟩
    rw [hE] at HR t2 t3 h0 ⊢
    have H0 := hid h0
    clear hv hs hL c3 hN h0 hE e1 ht
    go_enter Tryz.func37, Tryz.ntmps37
    go_wp2_with fail
    refine (HR _ (HV.out.call A0.out) (HL.out.call A0.out)).out.mono ?_; rintro e w1 ⟨⟨u, rfl, -, hu⟩, hb1⟩
    obtain rfl := hu H0.out
    have y1 := hid (bnext A0.out hb1)
    have X1 := hid (X0.out.call hb1)
    have d0 := X1.out.cell 0
    have d1 := X1.out.cell 1
    have d2 := X1.out.cell 2
    have e0 := X1.out.free 0
    have e1 := X1.out.free 1
    have e2 := X1.out.free 2
    simp at d0 d1 d2
    clear hb1 hu
    go_wp2_with fail
    obtain ⟨s1, s2⟩ := set3 X1.out false none none 0 0 0 0
    have g0 := s2.cell 0
    have g1 := s2.cell 1
    have g2 := s2.cell 2
    simp at g0 g1 g2
    refine bodyPost_ret (v := .tuple #[.slice none 0 0, .agg #[.bool false, .slice none 0 0, .slice none 0 0], .int .i64 E]) (by simp [results, Tryz.results37, go_sem, d0, d1, d2, g0, g1, g2]) rfl ⟨⟨_, _, rfl, ⟨_, _, _, _, _, _, _, rfl⟩, fun e => absurd e H0.out⟩, ?_⟩
    first | exact y1.out | exact (((y1.out.setCell (Nat.le_refl _) _).setCell (Nat.le_refl _) _).setCell (Nat.le_refl _) _)
  case pos =>
    have e1 : btE l t = qE t := by unfold btE; rw [if_pos h0]
    rw [e1]
    rw [h0] at HR
    have H0 := hid h0
    by_cases hq : qE t = 0
    · have HQ := hid hq
      rw [hq] at HP ⊢
      clear hv hs hL c3 hN h0 e1 ht hq
      go_enter Tryz.func37, Tryz.ntmps37
      go_wp2_with fail
      refine (HR _ (HV.out.call A0.out) (HL.out.call A0.out)).out.mono ?_; rintro e w1 ⟨⟨u, rfl, hu, -⟩, hb1⟩
      have U1 := hid (hu (by simp))
      obtain ⟨a1, c1', rfl, -, -⟩ := U1.out.slice
      have y1 := hid (bnext A0.out hb1)
      have X1 := hid (X0.out.call hb1)
      clear hb1 hu
      go_wp2_with fail
      refine (HP _ (HL.out.call y1.out)).out.mono ?_; rintro e w2 ⟨⟨v2, rfl, hv2, -⟩, hb2⟩
      have iq := isQ_of HQ.out (hv2 rfl)
      obtain ⟨m2, a2, n2, c2', a3, n3, c3', rfl⟩ := iq.qv
      have A2 := hid ((Below.refl w2.heap.size w2).alloc (Nat.le_refl _) (.cells #[.bool m2, .slice a2 n2 c2', .slice a3 n3 c3'] 57))
      have Z2 := hid (Blk.new w2 #[.bool m2, .slice a2 n2 c2', .slice a3 n3 c3'] 57)
      have X2 := hid ((X1.out.call hb2).call A2.out)
      have y2 := hid (bnext (bnext y1.out hb2) A2.out)
      have U2 := hid ((U1.out.call hb2).call A2.out)
      have Q2 := hid (iq.call A2.out)
      have ne : (w.heap.size = w2.heap.size) = False := by have := (X1.out.call hb2).lt; simp; omega
      have ne2 : (w2.heap.size = w.heap.size) = False := by have := (X1.out.call hb2).lt; simp; omega
      have d0 := X2.out.cell 0
      have d1 := X2.out.cell 1
      have d2 := X2.out.cell 2
      have e0 := X2.out.free 0
      have e1 := X2.out.free 1
      have e2 := X2.out.free 2
      have g0 := Z2.out.cell 0
      have g1 := Z2.out.cell 1
      have g2 := Z2.out.cell 2
      simp at d0 d1 d2 g0 g1 g2
      clear hb2 hv2 iq
      go_wp2_with fail
      go_region
      go_wp2_with fail
      obtain ⟨s1, s2⟩ := set3 X2.out m2 a2 a3 n2 c2' n3 c3'
      have f0 := s2.cell 0
      have f1 := s2.cell 1
      have f2 := s2.cell 2
      simp at f0 f1 f2
      refine bodyPost_ret (v := .tuple #[.slice a1 (l.map vQ).length c1', .agg #[.bool m2, .slice a2 n2 c2', .slice a3 n3 c3'], .int .i64 0]) (by simp [results, Tryz.results37, go_sem, f0, f1, f2]) rfl ⟨⟨_, _, rfl, ⟨_, _, _, _, _, _, _, rfl⟩, fun _ => ⟨?_, (isQ_putU X2.out m2 a2 a3 n2 c2' n3 c3' Q2.out).call (Below.refl _ _).drew⟩⟩, ?_⟩
      · exact ((U2.out.beside X2.out (by simp) m2 a2 a3 n2 c2' n3 c3').low (by simp)).call (Below.refl _ _).drew
      · exact (((y2.out.setCell (p := ⟨w.heap.size, 0, none⟩) (Nat.le_refl _) _).setCell (p := ⟨w.heap.size, 1, none⟩) (Nat.le_refl _) _).setCell (p := ⟨w.heap.size, 2, none⟩) (Nat.le_refl _) _).drew
    · have HQ := hid hq
      have t2 : (qE t == 0) = false := by simpa using hq
      have t3 : (qE t != 0) = true := by simpa using hq
      obtain ⟨E, hEE⟩ : ∃ x, qE t = x := ⟨_, rfl⟩
      rw [hEE] at HP HQ t2 t3 ⊢
      clear hv hs hL c3 hN h0 e1 ht hq hEE
      go_enter Tryz.func37, Tryz.ntmps37
      go_wp2_with fail
      refine (HR _ (HV.out.call A0.out) (HL.out.call A0.out)).out.mono ?_; rintro e w1 ⟨⟨u, rfl, hu, -⟩, hb1⟩
      have U1 := hid (hu (by simp))
      obtain ⟨a1, c1', rfl, -, -⟩ := U1.out.slice
      have y1 := hid (bnext A0.out hb1)
      have X1 := hid (X0.out.call hb1)
      clear hb1 hu
      go_wp2_with fail
      refine (HP _ (HL.out.call y1.out)).out.mono ?_; rintro e w2 ⟨⟨v2, rfl, -, hv2⟩, hb2⟩
      obtain rfl := hv2 HQ.out
      have A2 := hid ((Below.refl w2.heap.size w2).alloc (Nat.le_refl _) (.cells #[.bool false, .slice none 0 0, .slice none 0 0] 57))
      have Z2 := hid (Blk.new w2 #[.bool false, .slice none 0 0, .slice none 0 0] 57)
      have X2 := hid ((X1.out.call hb2).call A2.out)
      have y2 := hid (bnext (bnext y1.out hb2) A2.out)
      have ne : (w.heap.size = w2.heap.size) = False := by have := (X1.out.call hb2).lt; simp; omega
      have ne2 : (w2.heap.size = w.heap.size) = False := by have := (X1.out.call hb2).lt; simp; omega
      have d0 := X2.out.cell 0
      have d1 := X2.out.cell 1
      have d2 := X2.out.cell 2
      have e0 := X2.out.free 0
      have e1 := X2.out.free 1
      have e2 := X2.out.free 2
      have g0 := Z2.out.cell 0
      have g1 := Z2.out.cell 1
      have g2 := Z2.out.cell 2
      simp at d0 d1 d2 g0 g1 g2
      clear hb2 hv2
      go_wp2_with fail
      go_region
      go_wp2_with fail
      obtain ⟨s1, s2⟩ := set3 X2.out false none none 0 0 0 0
      have f0 := s2.cell 0
      have f1 := s2.cell 1
      have f2 := s2.cell 2
      simp at f0 f1 f2
      refine bodyPost_ret (v := .tuple #[.slice a1 (l.map vQ).length c1', .agg #[.bool false, .slice none 0 0, .slice none 0 0], .int .i64 E]) (by simp [results, Tryz.results37, go_sem, f0, f1, f2, d0, d1, d2]) rfl ⟨⟨_, _, rfl, ⟨_, _, _, _, _, _, _, rfl⟩, fun e => absurd e HQ.out⟩, ?_⟩
      first | exact y2.out.drew | exact (((y2.out.setCell (p := ⟨w.heap.size, 0, none⟩) (Nat.le_refl _) _).setCell (p := ⟨w.heap.size, 1, none⟩) (Nat.le_refl _) _).setCell (p := ⟨w.heap.size, 2, none⟩) (Nat.le_refl _) _).drew
end Go.Proofs.YtlimaehdmcnjaaaGreatDoor
namespace Go.Proofs.YtlimaehdmcnjaaaGreatDoor
open Go.RowKit
variable {P : Program} {Q : Exit → Act → World → Prop}
def ThenL (P : Program) (ops : Array Oper) (Q : Exit → Act → World → Prop) (rest : List Oper) : Exit → Act → World → Prop
  | .normal, a, w => wpList P ops Q rest a w
  | e, a, w => Q e a w
theorem only_any {md : Region.Mode} {ops : Array Oper} : ∀ (fuel : Nat) (listed : Array Bool) (a : Act) (w : World), wpAny P md ops (Only Q) fuel listed a w → wpAny P md ops Q fuel listed a w := by
  intro fuel
  induction fuel with
  | zero => exact fun _ _ _ h => h
  | succ fuel ih =>
    rintro listed a w ⟨h1, h2⟩
    refine ⟨h1, fun i hi => ?_⟩
    have h := h2 i hi
    unfold wpOp at h ⊢
    split at h
    · rename_i ho
      exact ih _ _ _ h
    · rename_i o ho
      split at h
      · rename_i hw
        rw [if_pos hw]
        rcases h with h | ⟨_, a', w', h⟩
        · exact .inl (wp_turn (fun a w h => ih _ _ _ h) (fun _ _ _ h => h.elim) (fun ⟨_, _, h⟩ => h.elim) h)
        · exact h.elim
      · rename_i hw
        rw [if_neg hw]
        exact ih _ _ _ h
theorem one_last {ops : Array Oper} {oz : Oper} {Q' : Exit → Act → World → Prop} {a : Act} {w : World} (hB : splitB ops oz = true)
    (hP : ∀ c a w, Q' (.panic c) a w → Q (.panic c) a w) (hL : LetsOut Q' → LetsOut Q) (hN : ∀ a w, Q' .normal a w → oz.wp P a w (fun a w => Q .normal a w) Q ∨ (oz.asks P a w ∧ LetsOut Q))
    (h : wpAny P .any ops Q' ops.size (Array.replicate ops.size false) a w) : wpAny P .any (ops.push oz) Q (ops.push oz).size (Array.replicate (ops.push oz).size false) a w := by
  simp only [splitB, Bool.and_eq_true, List.all_eq_true, List.any_eq_true, List.mem_range, decide_eq_true_eq, Option.isNone_iff_eq_none, Array.mem_toList_iff] at hB
  obtain ⟨⟨⟨⟨h1, h2⟩, h3⟩, h4⟩, h5⟩ := hB
  have hl := wpAny_last (P := P) (md := .any) (ops := ops) (oz := oz) (fun i o ho => h1 o (Array.mem_of_getElem? ho)) h2 (fun e he _ => h3 e he)
    (fun i hi => by
      obtain ⟨e, he, hb, hon⟩ := h4 i hi
      refine ⟨e, he, hb, ?_⟩
      simp only [Bool.or_eq_true, beq_iff_eq] at hon
      refine hon.imp (fun h => h) fun hx => ?_
      split at hx
      · rename_i o ho
        simp only [List.any_eq_true, Bool.and_eq_true, beq_iff_eq, Array.mem_toList_iff] at hx
        obtain ⟨f, hf, hfb, hfo⟩ := hx
        exact ⟨o, ho, f, hf, hfb, hfo⟩
      · cases hx)
    (fun i o ho e he _ => by
      have := h5 i (Array.getElem?_eq_some_iff.1 ho).1
      rw [ho] at this
      simp only [List.all_eq_true, Array.mem_toList_iff, decide_eq_true_eq] at this
      exact this e he) hP hL hN ops.size (Array.replicate ops.size false) a w (by simp) (fun j o _ hj => by simp [Array.getD] at hj) h
  have hr : Array.replicate (ops.push oz).size false = (Array.replicate ops.size false).push false := by
    rw [Array.size_push]
    exact Array.replicate_succ
  rw [hr, Array.size_push]
  exact hl
def lastsB (l : List Oper) : Nat → Nat → Bool
  | 0, _ => true
  | k + 1, n => (match l[n]? with | some oz => splitB (l.take n).toArray oz | none => false) && lastsB l k (n + 1)
theorem any_lasts (l : List Oper) {a : Act} {w : World} : ∀ (k n : Nat), n + k = l.length → lastsB l k n = true →
    wpAny P .any (l.take n).toArray (ThenL P l.toArray Q (l.drop n)) (l.take n).toArray.size (Array.replicate (l.take n).toArray.size false) a w →
    wpAny P .any l.toArray Q l.toArray.size (Array.replicate l.toArray.size false) a w
  | 0, n, hn, _, h => by
    have e1 : l.take n = l := List.take_of_length_le (by omega)
    have e2 : l.drop n = [] := List.drop_of_length_le (by omega)
    have e3 : ThenL P l.toArray Q [] = Q := by
      funext e a w
      cases e <;> simp [ThenL, wpList]
    rw [e1, e2, e3] at h
    exact h
  | k + 1, n, hn, hB, h => by
    simp only [lastsB, Bool.and_eq_true] at hB
    obtain ⟨h1, h2⟩ := hB
    have hlt : n < l.length := by omega
    rw [List.getElem?_eq_getElem hlt] at h1
    have e1 : l.take (n + 1) = l.take n ++ [l[n]] := List.take_succ_eq_append_getElem hlt
    have e2 : l.drop n = l[n] :: l.drop (n + 1) := List.drop_eq_getElem_cons hlt
    refine any_lasts l k (n + 1) (by omega) h2 ?_
    have e3 : (l.take (n + 1)).toArray = (l.take n).toArray.push l[n] := by rw [e1]; simp
    rw [e3]
    have hgz : l[n].guard = none := by
      simp only [splitB, Bool.and_eq_true, Option.isNone_iff_eq_none] at h1
      exact h1.1.1.1.2
    refine one_last h1 (Q' := ThenL P l.toArray Q (l.drop n)) (fun _ _ _ h => h) (fun ⟨a, w, h⟩ => ⟨a, w, h⟩) (fun a w hq => ?_) h
    have hq' : wpList P l.toArray Q (l.drop n) a w := hq
    rw [e2] at hq'
    unfold wpList at hq'
    have hw : Region.wanted l[n] (yielded l.toArray a.tmps) = true := by simp [Region.wanted, hgz]
    rw [if_pos hw] at hq'
    rcases hq' with hq' | ⟨h3, h4⟩
    · exact .inl (wp_turn (fun _ _ h => h) (fun _ _ _ h => h) (fun ⟨a, w, h⟩ => ⟨a, w, h⟩) hq')
    · exact .inr ⟨h3, by obtain ⟨a, w, h⟩ := h4; exact ⟨a, w, h⟩⟩
theorem held_lasts {id : Nat} {a : Act} {w : World} {l : List Oper} (n k : Nat) (is : List Nat) (g : Nat) (S : World → Prop) (hm : P.follows .mixedOrders = true) (hk : n + k = l.length) (hlast : lastsB l k n = true) (hsel : Region.noSelect (l.take n).toArray = true) (hg : g + is.length = (l.take n).toArray.size) (hB : pickB .any (l.take n).toArray is (Array.replicate (l.take n).toArray.size false) = true) (hS : S w.drew)
    (h : wpPick P (l.take n) S (fun a' => wpAnyH P .any (l.take n).toArray (Only (ThenL P l.toArray Q (l.drop n))) S g (setL is (Array.replicate (l.take n).toArray.size false)) a' w.drew) is a) : (Code.region id l.toArray true).wp P Q a w := by
  refine wp_region_any hm (any_lasts l k n hk hlast ?_)
  have h2 := held_pick (P := P) (md := .any) (Q := ThenL P l.toArray Q (l.drop n)) (S := S) hsel (g := g) hS is (Array.replicate (l.take n).toArray.size false) a hB h
  rw [hg] at h2
  exact only_any _ _ _ _ (wpAny_of_held (S := S) _ _ _ _ h2)
end Go.Proofs.YtlimaehdmcnjaaaGreatDoor
namespace Go.Proofs.YtlimaehdmcnjaaaGreatDoor
open Go.RowKit Go.Shelf
open Go.Lib (decDigits nDigits)
set_option linter.unusedVariables false
set_option linter.unusedSimpArgs false
def mixL (X v : List Rat) (i : Nat) : List Rat := X.take i ++ v.drop i
theorem mix_zero (X v : List Rat) : mixL X v 0 = v := by simp [mixL]
theorem mix_end {X v : List Rat} (h : X.length = v.length) : mixL X v v.length = X := by simp [mixL, List.take_of_length_le (Nat.le_of_eq h)]
theorem mix_len {X v : List Rat} (h : X.length = v.length) (i : Nat) : (mixL X v i).length = v.length := by
  unfold mixL
  rw [List.length_append, List.length_take, List.length_drop]; omega
theorem mix_at {X v : List Rat} {i : Nat} {q : Rat} (h : X.length = v.length) (hq : v[i]? = some q) : (mixL X v i)[i]? = some q := by
  have hi := (List.getElem?_eq_some_iff.1 hq).1
  unfold mixL
  rw [List.getElem?_append_right (by rw [List.length_take]; omega), List.length_take, Nat.min_eq_left (by omega), Nat.sub_self, List.getElem?_drop, Nat.add_zero]
  exact hq
theorem mix_set {X v : List Rat} {i : Nat} {x : Rat} (h : X.length = v.length) (hx : X[i]? = some x) : (mixL X v i).set i x = mixL X v (i + 1) := by
  have hi := (List.getElem?_eq_some_iff.1 hx).1
  unfold mixL
  rw [List.set_append_right _ _ (by rw [List.length_take]; omega), List.length_take, Nat.min_eq_left (by omega), Nat.sub_self, List.take_add_one, hx, Option.toList_some]
  have hd : v.drop i = v[i] :: v.drop (i + 1) := List.drop_eq_getElem_cons (by omega)
  rw [hd, List.set_cons_zero, List.append_assoc]; rfl
set_option maxRecDepth 100000 in
set_option maxHeartbeats 8000000 in
theorem s_Consistent (w : World) (v : Value) (l : List ByteArray) (t : ByteArray) (hv : Row w v (strs l)) (hs : ∀ s ∈ l, s.size ≤ 1000000) (ht : t.size ≤ 1000000) (hL : Lay w) :
    Calls Tryz.prog 29 #[v, .string t] w fun e w' => (∃ u, e = .returned (.tuple #[u, .int .i64 (cnE l t)]) ∧ Row w' u (strs (cnR l t))) ∧ Below w.heap.size w w' := by
  have HB := hid (s_both w v l t hv hs ht hL)
  have HL := hid hL
  obtain ⟨a, c, rfl, -, -, -⟩ := hv.openS
  obtain ⟨N, hN⟩ : ∃ n, l.length = n := ⟨_, rfl⟩
  rw [hN] at HB ⊢
  by_cases h0 : btE l t = 0
  case neg =>
    have e1 : cnE l t = btE l t := by unfold cnE; rw [if_neg h0]
    have e2 : cnR l t = [] := by unfold cnR; rw [if_neg h0]
    have t2 : (btE l t == 0) = false := by simpa using h0
    have t3 : (btE l t != 0) = true := by simpa using h0
    rw [e1, e2]
    obtain ⟨E, hE⟩ : ∃ x, btE l t = x := ⟨_, rfl⟩
    rw [hE] at HB t2 t3 ⊢
    clear hv hs hL hN h0 hE e1 e2 ht
    go_enter Tryz.func29, Tryz.ntmps29
    go_wp2_with fail
    refine HB.out.mono ?_; rintro e w1 ⟨⟨u, f, rfl, ⟨m1, a1, n1, c1, a2, n2, c2, rfl⟩, -⟩, hb1⟩
    have y1 := hid hb1
    have y2 := hid (y1.out.alloc y1.out.size (.cells #[.bool m1, .slice a1 n1 c1, .slice a2 n2 c2] 57))
    clear hb1
    go_wp2_with fail
    go_ret2
    exact ⟨⟨.slice none 0 0, rfl, Row.nil _⟩, y2.out⟩
  case pos =>
    have hve : vecE l = 0 := by
      unfold btE at h0
      split at h0
      · assumption
      · rename_i h1; exact absurd h0 h1
    have hqt : qE t = 0 := by unfold btE at h0; rw [if_pos hve] at h0; exact h0
    have e1 : cnE l t = wrE (cnQ (l.map vQ) (vQ t)) := by unfold cnE; rw [if_pos h0]
    have e2 : cnR l t = wrL (cnQ (l.map vQ) (vQ t)) := by unfold cnR; rw [if_pos h0]
    obtain ⟨g1, g2, -⟩ := vecE_ok hve
    have hdq := dig_vqs hve
    have hlen : (l.map vQ).length = N := by rw [List.length_map, hN]
    rw [e1, e2]
    rw [h0] at HB
    obtain ⟨qs, hqs⟩ : ∃ qs, l.map vQ = qs := ⟨_, rfl⟩
    obtain ⟨tt, htt⟩ : ∃ x, vQ t = x := ⟨_, rfl⟩
    have dt : Dig 4000 tt := by rw [← htt]; exact dig_q4 hqt
    rw [hqs, htt] at HB ⊢
    rw [hqs] at hdq hlen
    have dS : Dig 300000 (rs qs) := (dig_rs (K := 4000) hdq).up (by omega)
    have dT : Dig 304001 (tt - rs qs) := (dig_sub dt dS).up (by omega)
    have dN : Dig 2 ((N : Nat) : Rat) := ⟨by rw [Rat.num_natCast]; simp; omega, by rw [Rat.den_natCast]; omega⟩
    have hN0 : ((N : Nat) : Rat) ≠ 0 := natR_ne (by omega)
    have dM : Dig 304003 ((tt - rs qs) / ((N : Nat) : Rat)) := by rw [Rat.div_def]; exact (dig_mul dT (dig_inv hN0 dN)).up (by omega)
    have lS := Lim.of dS (by omega); have lT := Lim.of dT (by omega); have lt := Lim.of dt (by omega); have lN := Lim.of dN (by omega); have lM := Lim.of dM (by omega)
    have HSm := fun V v h => hid (s_sum V w.heap.size v qs h (by omega) hdq)
    have HSub := fun V v u hv hu => hid (f_Sub V v u tt (rs qs) hv hu lt.1 lt.2 lS.1 lS.2)
    have HSl := fun V => hid (s_small V N (by omega))
    have HDv := fun V v u hv hu => hid (f_Div V v u (tt - rs qs) ((N : Nat) : Rat) hv hu hN0 lT.1 lT.2 lN.1 lN.2)
    obtain ⟨mo, hmo⟩ : ∃ x, (tt - rs qs) / ((N : Nat) : Rat) = x := ⟨_, rfl⟩
    have hX : cnQ qs tt = qs.map (fun a => a + mo) := by unfold cnQ; rw [hlen, hmo]
    rw [hmo] at HDv lM dM
    rw [hX]
    obtain ⟨X, hXX⟩ : ∃ X, qs.map (fun a => a + mo) = X := ⟨_, rfl⟩
    have hXl : X.length = qs.length := by rw [← hXX, List.length_map]
    have HXat := hid (fun (i : Nat) (q : Rat) (h : qs[i]? = some q) => show X[i]? = some (q + mo) by rw [← hXX, List.getElem?_map, h]; rfl)
    have HLX := hid (fun (q : Rat) (h : q ∈ X) => show Lim q by
      rw [← hXX] at h
      obtain ⟨p, hp, rfl⟩ := List.mem_map.1 h
      exact Lim.of ((dig_add (hdq p hp) dM).up (L := 308004) (by omega)) (by omega))
    have HADD := fun V v u q (hq : q ∈ qs) hv hu => hid (f_Add V v u q mo hv hu (Lim.of (hdq q hq) (by omega)).1 (Lim.of (hdq q hq) (by omega)).2 lM.1 lM.2)
    have HWR := fun V v h hV => hid (s_write V w.heap.size v X h (by omega) HLX.out hV)
    rw [hXX]
    have HXl := hid hXl; have HN := hid hlen; have HNN := hid (show 0 < N ∧ N ≤ 64 by omega)
    clear hv hs hL hN h0 e1 e2 ht hve hqt g1 g2 hdq hlen hqs htt dt dS dT dN hN0 dM lS lT lt lN lM hmo hX hXX hXl
    go_enter Tryz.func29, Tryz.ntmps29
    go_wp2_with fail
    refine HB.out.mono ?_; rintro e w1 ⟨⟨u, f, rfl, ⟨m1, a1, n1, c1, a2, n2, c2, rfl⟩, hu⟩, hb1⟩
    obtain ⟨hu1, hu2⟩ := hu (by simp)
    have A1 := hid ((Below.refl w1.heap.size w1).alloc (Nat.le_refl _) (.cells #[.bool m1, .slice a1 n1 c1, .slice a2 n2 c2] 57))
    have y1 := hid (bnext hb1 A1.out)
    have RV0 := hid (hu1.call A1.out)
    have QT := hid (hu2.call A1.out)
    have XT := hid (Blk.new w1 #[.bool m1, .slice a1 n1 c1, .slice a2 n2 c2] 57)
    obtain ⟨W, hW⟩ : ∃ W, w1.alloc (.cells #[.bool m1, .slice a1 n1 c1, .slice a2 n2 c2] 57) = W := ⟨_, rfl⟩
    obtain ⟨g7, hg7⟩ : ∃ g, w1.heap.size = g := ⟨_, rfl⟩
    obtain ⟨av, cv, rfl, -, -⟩ := hu1.slice
    have RV := RV0
    rw [hW] at y1 RV QT XT
    rw [hg7] at XT
    rw [HN.out] at RV
    obtain ⟨q0, hq0⟩ : ∃ q, qs[0]? = some q := ⟨_, List.getElem?_eq_getElem (by rw [HN.out]; exact HNN.out.1)⟩
    obtain ⟨gv, -, -, -, -, -, -, -, rfl, hgB, hgv, -⟩ := RV.out.at hq0
    have HGV := hid hgv
    have KK : Hid (∀ V, Below W.heap.size W V → V.cell? ⟨g7, 0, none⟩ = some (.bool m1) ∧ V.cell? ⟨g7, 1, none⟩ = some (.slice a1 n1 c1) ∧ V.cell? ⟨g7, 2, none⟩ = some (.slice a2 n2 c2)) := fun V hV =>
      ⟨(XT.out.call hV).cell 0, (XT.out.call hV).cell 1, (XT.out.call hV).cell 2⟩
    have HGB := hid hgB
    clear hb1 hu hu1 hu2 RV0 A1 hq0 hgB hgv
    go_upto_region 4 with fail
    try rw [hW]
    try rw [hg7]
    rw [HN.out]
    clear hW hg7
    go_cut [9] (fun s9 wx => ∃ g : Nat, s9 = .pointer (some ⟨g, 0, none⟩) ∧ Hid (W.heap.size ≤ g) ∧ Hid (FB wx g mo) ∧ Hid (Below W.heap.size W wx))
    case first =>
      refine held_plain [0, 1, 4, 5] 6 (fun V => V.cell? ⟨g7, 0, none⟩ = some (.bool m1) ∧ V.cell? ⟨g7, 1, none⟩ = some (.slice a1 n1 c1) ∧ V.cell? ⟨g7, 2, none⟩ = some (.slice a2 n2 c2)) (by kernel_rfl) (by kernel_rfl) (by kernel_rfl) (by kernel_rfl) (KK.out _ (Below.refl _ _).drew) ?_
      iterate 4
        refine ⟨_, rfl, ?_⟩
        apply Exists.intro
        refine ⟨.inl ⟨by rfl, ?_⟩, ?_⟩
        · (intro W' hW'; obtain ⟨z1, z2, z3⟩ := hW'; go_simp; try (with_reducible rfl))
        (dsimp only [Act.put]; try simp only [List.setIfInBounds_toArray, List.set_cons_zero, List.set_cons_succ])
      obtain ⟨V0, hV0⟩ : ∃ x, W.drew = x := ⟨_, rfl⟩
      have BV0 := hid (show Below W.heap.size W V0 by rw [← hV0]; exact (Below.refl _ _).drew)
      rw [hV0]
      clear hV0
      refine held_two (i := 2) (j := 8) (by kernel_rfl) (by rfl) (by rfl) (by rfl) (by rfl) ?_ ?_
      · skip
        go_wp2_with fail
        refine (HSm V0 _ (RV.out.call BV0.out)).out.mono ?_; rintro e V1 ⟨⟨u1, rfl, hv⟩, hb⟩
        obtain ⟨mS, aS, nS, cS, bS, dS, eS, rfl⟩ := hv.qv
        have BV1 := hid (bnext BV0.out hb)
        have CS := hid hv
        clear hb hv
        go_wp2_with fail
        refine ⟨KK.out _ BV1.out, ?_⟩
        refine held_two (i := 3) (j := 8) (by kernel_rfl) (by rfl) (by rfl) (by rfl) (by rfl) ?_ ?_
        · skip
          go_wp2_with fail
          refine (HSub V1 _ _ (QT.out.call BV1.out) CS.out).out.mono ?_; rintro e V2 ⟨⟨u2, rfl, hv⟩, hb⟩
          obtain ⟨mT, aT, nT, cT, bT, dT, eT, rfl⟩ := hv.qv
          have BV2 := hid (bnext BV1.out hb)
          have CS := hid (CS.out.call hb)
          have CT := hid hv
          clear hb hv
          go_wp2_with fail
          refine ⟨KK.out _ BV2.out, ?_⟩
          refine held_two (i := 6) (j := 8) (by kernel_rfl) (by rfl) (by rfl) (by rfl) (by rfl) ?_ ?_
          · skip
            go_wp2_with fail
            refine (HSl V2).out.mono ?_; rintro e V3 ⟨⟨u3, rfl, hv⟩, hb⟩
            obtain ⟨mN, aN, nN, cN, bN, dN, eN, rfl⟩ := hv.qv
            have BV3 := hid (bnext BV2.out hb)
            have CS := hid (CS.out.call hb)
            have CT := hid (CT.out.call hb)
            have CN := hid hv
            clear hb hv
            go_wp2_with fail
            refine ⟨KK.out _ BV3.out, ?_⟩
            refine held_two (i := 7) (j := 8) (by kernel_rfl) (by rfl) (by rfl) (by rfl) (by rfl) ?_ ?_
            · skip
              go_wp2_with fail
              refine (HDv V3 _ _ CT.out CN.out).out.mono ?_; rintro e V4 ⟨⟨u4, rfl, hv⟩, hb⟩
              obtain ⟨mM, aM, nM, cM, bM, dM, eM, rfl⟩ := hv.qv
              have BV4 := hid (bnext BV3.out hb)
              have CS := hid (CS.out.call hb)
              have CT := hid (CT.out.call hb)
              have CN := hid (CN.out.call hb)
              have CM := hid hv
              clear hb hv
              go_wp2_with fail
              refine ⟨KK.out _ BV4.out, ?_⟩
              refine held_one (i := 8) (by kernel_rfl) (by rfl) (by rfl) ?_
              go_wp2_with fail
              obtain ⟨V5, hV⟩ : ∃ x, V4.alloc (.cells #[.bool false, .slice none 0 0, .slice none 0 0] 57) = x := ⟨_, rfl⟩
              have hb : Below V4.heap.size V4 V5 := by rw [← hV]; exact (Below.refl _ _).alloc (Nat.le_refl _) _
              have XM := hid (show Blk V5 V4.heap.size #[.bool false, .slice none 0 0, .slice none 0 0] 57 by rw [← hV]; exact Blk.new _ _ _)
              have BV5 := hid (bnext BV4.out hb)
              have GM := hid (show W.heap.size ≤ V4.heap.size from BV4.out.size)
              have CS := hid (CS.out.call hb)
              have CT := hid (CT.out.call hb)
              have CN := hid (CN.out.call hb)
              have CM := hid (CM.out.call hb)
              rw [hV]
              clear hb hV
              refine ⟨KK.out _ BV5.out, ?_⟩
              refine held_one (i := 9) (by kernel_rfl) (by rfl) (by rfl) ?_
              have r0 := XM.out.cell 0
              have r1 := XM.out.cell 1
              have r2 := XM.out.cell 2
              have f0 := XM.out.free 0
              have f1 := XM.out.free 1
              have f2 := XM.out.free 2
              simp at r0 r1 r2
              have FBM := hid (FB.put XM.out CM.out)
              have BV6 := hid (((BV5.out.setCell (p := ⟨V4.heap.size, 0, none⟩) GM.out (.bool mM)).setCell (p := ⟨V4.heap.size, 1, none⟩) GM.out (.slice aM nM cM)).setCell (p := ⟨V4.heap.size, 2, none⟩) GM.out (.slice bM dM eM))
              have KP := hid (keep3 XM.out mM aM bM nM cM dM eM)
              have CS := hid (KP.out.isQ CS.out)
              have CT := hid (KP.out.isQ CT.out)
              have CN := hid (KP.out.isQ CN.out)
              clear KP
              go_wp2_with fail
              refine ⟨KK.out _ BV6.out, ?_⟩
              refine wpAnyH_done (by kernel_rfl) ?_ _
              simp only [Only]
              go_wp2_with fail
              go_meet
              exact ⟨_, rfl, GM, FBM, BV6⟩
            · skip
              go_wp2_with fail
              obtain ⟨V7, hV⟩ : ∃ x, V3.alloc (.cells #[.bool false, .slice none 0 0, .slice none 0 0] 57) = x := ⟨_, rfl⟩
              have hb : Below V3.heap.size V3 V7 := by rw [← hV]; exact (Below.refl _ _).alloc (Nat.le_refl _) _
              have XM := hid (show Blk V7 V3.heap.size #[.bool false, .slice none 0 0, .slice none 0 0] 57 by rw [← hV]; exact Blk.new _ _ _)
              have BV7 := hid (bnext BV3.out hb)
              have GM := hid (show W.heap.size ≤ V3.heap.size from BV3.out.size)
              have CS := hid (CS.out.call hb)
              have CT := hid (CT.out.call hb)
              have CN := hid (CN.out.call hb)
              rw [hV]
              clear hb hV
              refine ⟨KK.out _ BV7.out, ?_⟩
              refine held_one (i := 7) (by kernel_rfl) (by rfl) (by rfl) ?_
              go_wp2_with fail
              refine (HDv V7 _ _ CT.out CN.out).out.mono ?_; rintro e V8 ⟨⟨u8, rfl, hv⟩, hb⟩
              obtain ⟨mM, aM, nM, cM, bM, dM, eM, rfl⟩ := hv.qv
              have BV8 := hid (bnext BV7.out hb)
              have CS := hid (CS.out.call hb)
              have CT := hid (CT.out.call hb)
              have CN := hid (CN.out.call hb)
              have XM := hid (XM.out.call hb)
              have CM := hid hv
              clear hb hv
              go_wp2_with fail
              refine ⟨KK.out _ BV8.out, ?_⟩
              refine held_one (i := 9) (by kernel_rfl) (by rfl) (by rfl) ?_
              have r0 := XM.out.cell 0
              have r1 := XM.out.cell 1
              have r2 := XM.out.cell 2
              have f0 := XM.out.free 0
              have f1 := XM.out.free 1
              have f2 := XM.out.free 2
              simp at r0 r1 r2
              have FBM := hid (FB.put XM.out CM.out)
              have BV9 := hid (((BV8.out.setCell (p := ⟨V3.heap.size, 0, none⟩) GM.out (.bool mM)).setCell (p := ⟨V3.heap.size, 1, none⟩) GM.out (.slice aM nM cM)).setCell (p := ⟨V3.heap.size, 2, none⟩) GM.out (.slice bM dM eM))
              have KP := hid (keep3 XM.out mM aM bM nM cM dM eM)
              have CS := hid (KP.out.isQ CS.out)
              have CT := hid (KP.out.isQ CT.out)
              have CN := hid (KP.out.isQ CN.out)
              clear KP
              go_wp2_with fail
              refine ⟨KK.out _ BV9.out, ?_⟩
              refine wpAnyH_done (by kernel_rfl) ?_ _
              simp only [Only]
              go_wp2_with fail
              go_meet
              exact ⟨_, rfl, GM, FBM, BV9⟩
          · skip
            go_wp2_with fail
            obtain ⟨V10, hV⟩ : ∃ x, V2.alloc (.cells #[.bool false, .slice none 0 0, .slice none 0 0] 57) = x := ⟨_, rfl⟩
            have hb : Below V2.heap.size V2 V10 := by rw [← hV]; exact (Below.refl _ _).alloc (Nat.le_refl _) _
            have XM := hid (show Blk V10 V2.heap.size #[.bool false, .slice none 0 0, .slice none 0 0] 57 by rw [← hV]; exact Blk.new _ _ _)
            have BV10 := hid (bnext BV2.out hb)
            have GM := hid (show W.heap.size ≤ V2.heap.size from BV2.out.size)
            have CS := hid (CS.out.call hb)
            have CT := hid (CT.out.call hb)
            rw [hV]
            clear hb hV
            refine ⟨KK.out _ BV10.out, ?_⟩
            refine held_one (i := 6) (by kernel_rfl) (by rfl) (by rfl) ?_
            go_wp2_with fail
            refine (HSl V10).out.mono ?_; rintro e V11 ⟨⟨u11, rfl, hv⟩, hb⟩
            obtain ⟨mN, aN, nN, cN, bN, dN, eN, rfl⟩ := hv.qv
            have BV11 := hid (bnext BV10.out hb)
            have CS := hid (CS.out.call hb)
            have CT := hid (CT.out.call hb)
            have XM := hid (XM.out.call hb)
            have CN := hid hv
            clear hb hv
            go_wp2_with fail
            refine ⟨KK.out _ BV11.out, ?_⟩
            refine held_one (i := 7) (by kernel_rfl) (by rfl) (by rfl) ?_
            go_wp2_with fail
            refine (HDv V11 _ _ CT.out CN.out).out.mono ?_; rintro e V12 ⟨⟨u12, rfl, hv⟩, hb⟩
            obtain ⟨mM, aM, nM, cM, bM, dM, eM, rfl⟩ := hv.qv
            have BV12 := hid (bnext BV11.out hb)
            have CS := hid (CS.out.call hb)
            have CT := hid (CT.out.call hb)
            have CN := hid (CN.out.call hb)
            have XM := hid (XM.out.call hb)
            have CM := hid hv
            clear hb hv
            go_wp2_with fail
            refine ⟨KK.out _ BV12.out, ?_⟩
            refine held_one (i := 9) (by kernel_rfl) (by rfl) (by rfl) ?_
            have r0 := XM.out.cell 0
            have r1 := XM.out.cell 1
            have r2 := XM.out.cell 2
            have f0 := XM.out.free 0
            have f1 := XM.out.free 1
            have f2 := XM.out.free 2
            simp at r0 r1 r2
            have FBM := hid (FB.put XM.out CM.out)
            have BV13 := hid (((BV12.out.setCell (p := ⟨V2.heap.size, 0, none⟩) GM.out (.bool mM)).setCell (p := ⟨V2.heap.size, 1, none⟩) GM.out (.slice aM nM cM)).setCell (p := ⟨V2.heap.size, 2, none⟩) GM.out (.slice bM dM eM))
            have KP := hid (keep3 XM.out mM aM bM nM cM dM eM)
            have CS := hid (KP.out.isQ CS.out)
            have CT := hid (KP.out.isQ CT.out)
            have CN := hid (KP.out.isQ CN.out)
            clear KP
            go_wp2_with fail
            refine ⟨KK.out _ BV13.out, ?_⟩
            refine wpAnyH_done (by kernel_rfl) ?_ _
            simp only [Only]
            go_wp2_with fail
            go_meet
            exact ⟨_, rfl, GM, FBM, BV13⟩
        · skip
          go_wp2_with fail
          obtain ⟨V14, hV⟩ : ∃ x, V1.alloc (.cells #[.bool false, .slice none 0 0, .slice none 0 0] 57) = x := ⟨_, rfl⟩
          have hb : Below V1.heap.size V1 V14 := by rw [← hV]; exact (Below.refl _ _).alloc (Nat.le_refl _) _
          have XM := hid (show Blk V14 V1.heap.size #[.bool false, .slice none 0 0, .slice none 0 0] 57 by rw [← hV]; exact Blk.new _ _ _)
          have BV14 := hid (bnext BV1.out hb)
          have GM := hid (show W.heap.size ≤ V1.heap.size from BV1.out.size)
          have CS := hid (CS.out.call hb)
          rw [hV]
          clear hb hV
          refine ⟨KK.out _ BV14.out, ?_⟩
          refine held_one (i := 3) (by kernel_rfl) (by rfl) (by rfl) ?_
          go_wp2_with fail
          refine (HSub V14 _ _ (QT.out.call BV14.out) CS.out).out.mono ?_; rintro e V15 ⟨⟨u15, rfl, hv⟩, hb⟩
          obtain ⟨mT, aT, nT, cT, bT, dT, eT, rfl⟩ := hv.qv
          have BV15 := hid (bnext BV14.out hb)
          have CS := hid (CS.out.call hb)
          have XM := hid (XM.out.call hb)
          have CT := hid hv
          clear hb hv
          go_wp2_with fail
          refine ⟨KK.out _ BV15.out, ?_⟩
          refine held_one (i := 6) (by kernel_rfl) (by rfl) (by rfl) ?_
          go_wp2_with fail
          refine (HSl V15).out.mono ?_; rintro e V16 ⟨⟨u16, rfl, hv⟩, hb⟩
          obtain ⟨mN, aN, nN, cN, bN, dN, eN, rfl⟩ := hv.qv
          have BV16 := hid (bnext BV15.out hb)
          have CS := hid (CS.out.call hb)
          have CT := hid (CT.out.call hb)
          have XM := hid (XM.out.call hb)
          have CN := hid hv
          clear hb hv
          go_wp2_with fail
          refine ⟨KK.out _ BV16.out, ?_⟩
          refine held_one (i := 7) (by kernel_rfl) (by rfl) (by rfl) ?_
          go_wp2_with fail
          refine (HDv V16 _ _ CT.out CN.out).out.mono ?_; rintro e V17 ⟨⟨u17, rfl, hv⟩, hb⟩
          obtain ⟨mM, aM, nM, cM, bM, dM, eM, rfl⟩ := hv.qv
          have BV17 := hid (bnext BV16.out hb)
          have CS := hid (CS.out.call hb)
          have CT := hid (CT.out.call hb)
          have CN := hid (CN.out.call hb)
          have XM := hid (XM.out.call hb)
          have CM := hid hv
          clear hb hv
          go_wp2_with fail
          refine ⟨KK.out _ BV17.out, ?_⟩
          refine held_one (i := 9) (by kernel_rfl) (by rfl) (by rfl) ?_
          have r0 := XM.out.cell 0
          have r1 := XM.out.cell 1
          have r2 := XM.out.cell 2
          have f0 := XM.out.free 0
          have f1 := XM.out.free 1
          have f2 := XM.out.free 2
          simp at r0 r1 r2
          have FBM := hid (FB.put XM.out CM.out)
          have BV18 := hid (((BV17.out.setCell (p := ⟨V1.heap.size, 0, none⟩) GM.out (.bool mM)).setCell (p := ⟨V1.heap.size, 1, none⟩) GM.out (.slice aM nM cM)).setCell (p := ⟨V1.heap.size, 2, none⟩) GM.out (.slice bM dM eM))
          have KP := hid (keep3 XM.out mM aM bM nM cM dM eM)
          have CS := hid (KP.out.isQ CS.out)
          have CT := hid (KP.out.isQ CT.out)
          have CN := hid (KP.out.isQ CN.out)
          clear KP
          go_wp2_with fail
          refine ⟨KK.out _ BV18.out, ?_⟩
          refine wpAnyH_done (by kernel_rfl) ?_ _
          simp only [Only]
          go_wp2_with fail
          go_meet
          exact ⟨_, rfl, GM, FBM, BV18⟩
      · skip
        go_wp2_with fail
        obtain ⟨V19, hV⟩ : ∃ x, V0.alloc (.cells #[.bool false, .slice none 0 0, .slice none 0 0] 57) = x := ⟨_, rfl⟩
        have hb : Below V0.heap.size V0 V19 := by rw [← hV]; exact (Below.refl _ _).alloc (Nat.le_refl _) _
        have XM := hid (show Blk V19 V0.heap.size #[.bool false, .slice none 0 0, .slice none 0 0] 57 by rw [← hV]; exact Blk.new _ _ _)
        have BV19 := hid (bnext BV0.out hb)
        have GM := hid (show W.heap.size ≤ V0.heap.size from BV0.out.size)
        rw [hV]
        clear hb hV
        refine ⟨KK.out _ BV19.out, ?_⟩
        refine held_one (i := 2) (by kernel_rfl) (by rfl) (by rfl) ?_
        go_wp2_with fail
        refine (HSm V19 _ (RV.out.call BV19.out)).out.mono ?_; rintro e V20 ⟨⟨u20, rfl, hv⟩, hb⟩
        obtain ⟨mS, aS, nS, cS, bS, dS, eS, rfl⟩ := hv.qv
        have BV20 := hid (bnext BV19.out hb)
        have XM := hid (XM.out.call hb)
        have CS := hid hv
        clear hb hv
        go_wp2_with fail
        refine ⟨KK.out _ BV20.out, ?_⟩
        refine held_one (i := 3) (by kernel_rfl) (by rfl) (by rfl) ?_
        go_wp2_with fail
        refine (HSub V20 _ _ (QT.out.call BV20.out) CS.out).out.mono ?_; rintro e V21 ⟨⟨u21, rfl, hv⟩, hb⟩
        obtain ⟨mT, aT, nT, cT, bT, dT, eT, rfl⟩ := hv.qv
        have BV21 := hid (bnext BV20.out hb)
        have CS := hid (CS.out.call hb)
        have XM := hid (XM.out.call hb)
        have CT := hid hv
        clear hb hv
        go_wp2_with fail
        refine ⟨KK.out _ BV21.out, ?_⟩
        refine held_one (i := 6) (by kernel_rfl) (by rfl) (by rfl) ?_
        go_wp2_with fail
        refine (HSl V21).out.mono ?_; rintro e V22 ⟨⟨u22, rfl, hv⟩, hb⟩
        obtain ⟨mN, aN, nN, cN, bN, dN, eN, rfl⟩ := hv.qv
        have BV22 := hid (bnext BV21.out hb)
        have CS := hid (CS.out.call hb)
        have CT := hid (CT.out.call hb)
        have XM := hid (XM.out.call hb)
        have CN := hid hv
        clear hb hv
        go_wp2_with fail
        refine ⟨KK.out _ BV22.out, ?_⟩
        refine held_one (i := 7) (by kernel_rfl) (by rfl) (by rfl) ?_
        go_wp2_with fail
        refine (HDv V22 _ _ CT.out CN.out).out.mono ?_; rintro e V23 ⟨⟨u23, rfl, hv⟩, hb⟩
        obtain ⟨mM, aM, nM, cM, bM, dM, eM, rfl⟩ := hv.qv
        have BV23 := hid (bnext BV22.out hb)
        have CS := hid (CS.out.call hb)
        have CT := hid (CT.out.call hb)
        have CN := hid (CN.out.call hb)
        have XM := hid (XM.out.call hb)
        have CM := hid hv
        clear hb hv
        go_wp2_with fail
        refine ⟨KK.out _ BV23.out, ?_⟩
        refine held_one (i := 9) (by kernel_rfl) (by rfl) (by rfl) ?_
        have r0 := XM.out.cell 0
        have r1 := XM.out.cell 1
        have r2 := XM.out.cell 2
        have f0 := XM.out.free 0
        have f1 := XM.out.free 1
        have f2 := XM.out.free 2
        simp at r0 r1 r2
        have FBM := hid (FB.put XM.out CM.out)
        have BV24 := hid (((BV23.out.setCell (p := ⟨V0.heap.size, 0, none⟩) GM.out (.bool mM)).setCell (p := ⟨V0.heap.size, 1, none⟩) GM.out (.slice aM nM cM)).setCell (p := ⟨V0.heap.size, 2, none⟩) GM.out (.slice bM dM eM))
        have KP := hid (keep3 XM.out mM aM bM nM cM dM eM)
        have CS := hid (KP.out.isQ CS.out)
        have CT := hid (KP.out.isQ CT.out)
        have CN := hid (KP.out.isQ CN.out)
        clear KP
        go_wp2_with fail
        refine ⟨KK.out _ BV24.out, ?_⟩
        refine wpAnyH_done (by kernel_rfl) ?_ _
        simp only [Only]
        go_wp2_with fail
        go_meet
        exact ⟨_, rfl, GM, FBM, BV24⟩
    case rest =>
      obtain ⟨g9, rfl, hg9, hF, hBc⟩ := hcut
      obtain ⟨wq, hwq⟩ : ∃ x, x = wc := ⟨_, rfl⟩
      subst hwq
      have yq := hid (bnext y1.out hBc.out)
      have RQ := hid (RV.out.call hBc.out)
      go_wp2_with fail
      go_loopw [10, 31] (fun s10 s31 wr => ∃ i : Nat, s31 = .int .i64 (i : Nat) ∧ i ≤ N ∧ Hid (VRow w.heap.size wr (.slice (some ⟨gv, 0, none⟩) N cv) (mixL X qs i)) ∧ Hid (FB wr g9 mo) ∧ Hid (Below w.heap.size w wr)) (fun s10 s31 wr => N - (intOf s31).toNat)
      case atStart => exact ⟨0, rfl, Nat.zero_le _, by rw [mix_zero]; exact RQ, hF, yq⟩
      case round =>
        obtain ⟨i, rfl, hi, hR, hF', hB'⟩ := hrel
        by_cases hlt : i < N
        · obtain ⟨q, hq⟩ : ∃ q, qs[i]? = some q := ⟨_, List.getElem?_eq_getElem (by rw [HN.out]; exact hlt)⟩
          obtain ⟨g', mq, aq, nq, cq, aq', nq', cq', e, -, -, k0, k1, k2, hQQ⟩ := hR.out.at (mix_at HXl.out hq)
          obtain rfl : gv = g' := by simpa using e
          obtain ⟨m5, a5, n5, c5, a6, n6, c6, hb5, hq5⟩ := hF'.out
          have KK2 : Hid (∀ V, Below wr.heap.size wr V → V.cell? ⟨gv, i * 3, none⟩ = some (.bool mq) ∧ V.cell? ⟨gv, i * 3 + 1, none⟩ = some (.slice aq nq cq) ∧ V.cell? ⟨gv, i * 3 + 2, none⟩ = some (.slice aq' nq' cq') ∧ V.cell? ⟨g9, 0, none⟩ = some (.bool m5) ∧ V.cell? ⟨g9, 1, none⟩ = some (.slice a5 n5 c5) ∧ V.cell? ⟨g9, 2, none⟩ = some (.slice a6 n6 c6)) := fun V hV =>
            ⟨(hV.cell (p := ⟨gv, i * 3, none⟩) (cell_lt k0)).trans k0, (hV.cell (p := ⟨gv, i * 3 + 1, none⟩) (cell_lt k1)).trans k1, (hV.cell (p := ⟨gv, i * 3 + 2, none⟩) (cell_lt k2)).trans k2, (hb5.call hV).cell 0, (hb5.call hV).cell 1, (hb5.call hV).cell 2⟩
          have QV := hid hQQ; have Q5 := hid hq5
          have QM := hid (List.mem_of_getElem? hq)
          have HXi := hid (HXat.out i q hq)
          have f1 : (0 : Int) ≤ (i : Int) := by omega
          have f2 : (i : Int) < (N : Int) := by omega
          have wi : IntKind.i64.wrap ((i : Int) + 1) = ((i + 1 : Nat) : Int) := by have := HNN.out; rw [IntWalk.i64_in _ ⟨by omega, by omega⟩]; omega
          have HLT := hid hlt
          clear hq e k0 k1 k2 hQQ hb5 hq5 hlt hi
          go_wp2_with fail
          refine held_lasts 8 2 [0, 1, 2, 3, 4, 5, 6] 1 (fun V => V.cell? ⟨gv, i * 3, none⟩ = some (.bool mq) ∧ V.cell? ⟨gv, i * 3 + 1, none⟩ = some (.slice aq nq cq) ∧ V.cell? ⟨gv, i * 3 + 2, none⟩ = some (.slice aq' nq' cq') ∧ V.cell? ⟨g9, 0, none⟩ = some (.bool m5) ∧ V.cell? ⟨g9, 1, none⟩ = some (.slice a5 n5 c5) ∧ V.cell? ⟨g9, 2, none⟩ = some (.slice a6 n6 c6)) (by kernel_rfl) rfl (by kernel_rfl) (by kernel_rfl) (by kernel_rfl) (by kernel_rfl) (KK2.out _ (Below.refl _ _).drew) ?_
          iterate 7
            refine ⟨_, rfl, ?_⟩
            apply Exists.intro
            refine ⟨.inl ⟨by rfl, ?_⟩, ?_⟩
            · (intro W' hW'; obtain ⟨z1, z2, z3, z4, z5, z6⟩ := hW'; go_simp; try (with_reducible rfl))
            (dsimp only [Act.put]; try simp only [List.setIfInBounds_toArray, List.set_cons_zero, List.set_cons_succ])
          refine held_one (i := 7) (by kernel_rfl) (by rfl) (by rfl) ?_
          go_wp2_with fail
          refine (HADD _ _ _ q QM.out (QV.out.call (Below.refl _ _).drew) (Q5.out.call (Below.refl _ _).drew)).out.mono ?_; rintro e w6 ⟨⟨v6, rfl, hv6⟩, hb6⟩
          obtain ⟨m7, a7, n7, c7, a8, n8, c8, rfl⟩ := hv6.qv
          have x6 := hid (show Below wr.heap.size wr w6 from (Below.refl _ _).drew.trans hb6)
          have V6 := hid hv6
          clear hb6 hv6
          go_wp2_with fail
          refine ⟨KK2.out _ x6.out, ?_⟩
          refine wpAnyH_done (by kernel_rfl) ?_ _
          simp only [Only, ThenL, List.drop_succ_cons, List.drop_zero]
          have R6 := hid (hR.out.call x6.out)
          obtain ⟨z1, z2, z3, -⟩ := KK2.out _ x6.out
          have f3 := R6.out.free (i * 3)
          have f4 := R6.out.free (i * 3 + 1)
          have f5 := R6.out.free (i * 3 + 2)
          obtain ⟨P1, P2⟩ := R6.out.put (i := i) (by rw [mix_len HXl.out, HN.out]; exact HLT.out) V6.out
          rw [mix_set HXl.out HXi.out] at P1
          have R7 := hid P1
          have hne : g9 ≠ gv := by have := HGV.out; have := hg9.out; omega
          have F7 := hid ((hF'.out.call x6.out).keep P2 (by rw [Below.heap_setCell _ _ _ _ hne, Below.heap_setCell _ _ _ _ hne, Below.heap_setCell _ _ _ _ hne]))
          have B7 := hid ((((bnext hB'.out x6.out).setCell (p := ⟨gv, i * 3, none⟩) HGB.out (.bool m7)).setCell (p := ⟨gv, i * 3 + 1, none⟩) HGB.out (.slice a7 n7 c7)).setCell (p := ⟨gv, i * 3 + 2, none⟩) HGB.out (.slice a8 n8 c8))
          clear P1 P2 hne
          go_wp2_with fail
          try simp only [Only]
          try go_wp2_with fail
          go_roundw
          case rel => exact ⟨i + 1, by go_num, by have := HLT.out; omega, R7, F7, B7⟩
          case measure => simp [intOf] <;> (have := HLT.out; omega)
        · obtain rfl : i = N := by omega
          have q9 : decide ((i : Int) < (i : Int)) = false := by simp
          have RE := hid (show VRow w.heap.size wr (.slice (some ⟨gv, 0, none⟩) i cv) X by have h := hR.out; rw [show mixL X qs i = X by rw [← HN.out]; exact mix_end HXl.out] at h; exact h)
          clear hlt hi hR
          go_wp2_with fail
          refine (HWR _ _ RE.out (HL.out.call hB'.out)).out.mono ?_; rintro e w8 ⟨⟨u, rfl, hu⟩, hb8⟩
          have y8 := hid (bnext hB'.out hb8)
          have U8 := hid hu
          clear hb8 hu
          go_wp2_with fail
          go_ret2
          exact ⟨⟨_, rfl, U8.out⟩, y8.out⟩
end Go.Proofs.YtlimaehdmcnjaaaGreatDoor
namespace Go.Proofs.YtlimaehdmcnjaaaGreatDoor
open Go.RowKit
open Go.Lib (decDigits nDigits)
set_option linter.unusedVariables false
theorem op2_err {f : Rat → Rat → Rat} {s t : ByteArray} (h0 : ¬ (qE s = 0 ∧ qE t = 0)) : (if qE s = 0 then qE t else qE s) ≠ 0 ∧ op2B f s t = ⟨#[]⟩ ∧ op2E f s t = (if qE s = 0 then qE t else qE s) := by
  refine ⟨?_, by rw [op2B, if_neg h0], ?_⟩
  · split
    · rename_i h; exact fun e => h0 ⟨h, e⟩
    · rename_i h; exact h
  · rw [op2E]
    split
    · rename_i h; rw [if_neg (fun e => h0 ⟨h, e⟩)]
    · rfl
def sgnQ (q : Rat) : Int := if q.num = 0 then 0 else if q.num < 0 then -1 else 1
def ordQ (p q : Rat) : Int := sgnQ (p - q)
def cmB (s t : ByteArray) : Int := if qE s = 0 ∧ qE t = 0 then ordQ (vQ s) (vQ t) else 0
def cmE (s t : ByteArray) : Int := if qE s = 0 then qE t else qE s
theorem limbs_none {n : Nat} : (limbs n).length = 0 ↔ n = 0 := by
  constructor
  · intro h
    have h2 : limbs n = limbs 0 := by rw [List.eq_nil_of_length_eq_zero h, limbs_zero]
    exact limbs_inj h2
  · rintro rfl; rw [limbs_zero]; rfl
end Go.Proofs.YtlimaehdmcnjaaaGreatDoor
namespace Go.Proofs.YtlimaehdmcnjaaaGreatDoor
open Go.RowKit Go.Shelf Go.Maps
open Go.Lib (decDigits nDigits)
set_option linter.unusedVariables false
set_option linter.unusedSimpArgs false
attribute [local go_sem] Oper.semAt_some
theorem outB_size (q : Rat) : (outB q).size ≤ 10000 := by
  unfold outB
  split
  · exact (by decide : (0 : Nat) ≤ 10000)
  · rename_i h
    unfold ovQ at h
    have h1 := list_size (txQ q)
    unfold txQ at h1 ⊢
    rw [txB_list] at h1
    rw [← h1]
    simp only [List.length_append, Lib.decDigits_length]
    have e1 : (if decide (q.num < 0) = true then [45] else ([] : List UInt8)).length ≤ 1 := by split <;> simp
    have e2 : (if q.den = 1 then [] else (47 : UInt8) :: decDigits q.den).length ≤ 4001 := by
      split
      · simp
      · simp only [List.length_cons, Lib.decDigits_length]; omega
    omega
end Go.Proofs.YtlimaehdmcnjaaaGreatDoor
namespace Go.Proofs.YtlimaehdmcnjaaaGreatDoor
open Go.RowKit
open Go.Lib (decDigits nDigits)
set_option linter.unusedVariables false
def sgnZ (z : Int) : Int := if z = 0 then 0 else if z < 0 then -1 else 1
theorem mk_num_zero {z : Int} {d : Nat} (hd : d ≠ 0) : (mkRat z d).num = 0 ↔ z = 0 := by
  rw [Rat.num_mkRat, if_neg hd]
  have hg : (0 : Int) < (Nat.gcd d z.natAbs : Nat) := by
    have := Nat.gcd_pos_of_pos_left z.natAbs (Nat.pos_of_ne_zero hd)
    omega
  have hdv : ((Nat.gcd d z.natAbs : Nat) : Int) ∣ z := Int.ofNat_dvd_left.2 (Nat.gcd_dvd_right _ _)
  constructor
  · intro h
    have := Int.ediv_mul_cancel hdv
    rw [h, Int.zero_mul] at this
    exact this.symm
  · rintro rfl; simp
theorem mk_num_neg {z : Int} {d : Nat} (hd : d ≠ 0) : (mkRat z d).num < 0 ↔ z < 0 := by
  rw [Rat.num_mkRat, if_neg hd]
  have hg : (0 : Int) < (Nat.gcd d z.natAbs : Nat) := by
    have := Nat.gcd_pos_of_pos_left z.natAbs (Nat.pos_of_ne_zero hd)
    omega
  constructor
  · intro h
    rcases Int.lt_or_le z 0 with h1 | h1
    · exact h1
    · have := Int.ediv_nonneg h1 (Int.le_of_lt hg)
      omega
  · intro h
    exact Int.ediv_neg_of_neg_of_pos h hg
theorem sgnQ_mk {z : Int} {d : Nat} (hd : d ≠ 0) : sgnQ (mkRat z d) = sgnZ z := by
  unfold sgnQ sgnZ
  by_cases h : z = 0
  · rw [if_pos ((mk_num_zero hd).2 h), if_pos h]
  · rw [if_neg (fun e => h ((mk_num_zero hd).1 e)), if_neg h]
    by_cases h2 : z < 0
    · rw [if_pos ((mk_num_neg hd).2 h2), if_pos h2]
    · rw [if_neg (fun e => h2 ((mk_num_neg hd).1 e)), if_neg h2]
theorem mk_sub {a c : Int} {b d : Nat} (hb : b ≠ 0) (hd : d ≠ 0) : mkRat a b - mkRat c d = mkRat (a * d - c * b) (b * d) := by
  rw [Rat.sub_eq_add_neg, Rat.neg_mkRat, Rat.mkRat_add_mkRat _ _ hb hd, Int.neg_mul, Int.sub_eq_add_neg]
theorem ordQ_mk {a c : Int} {b d : Nat} (hb : b ≠ 0) (hd : d ≠ 0) : ordQ (mkRat a b) (mkRat c d) = sgnZ (a * d - c * b) := by
  unfold ordQ
  rw [mk_sub hb hd, sgnQ_mk (Nat.mul_ne_zero hb hd)]
theorem tx_size {q : Rat} (h : ¬ ovQ q) : (txQ q).size ≤ 10000 := by
  have := outB_size q
  rwa [outB_fits h] at this
end Go.Proofs.YtlimaehdmcnjaaaGreatDoor
namespace Go.Proofs.YtlimaehdmcnjaaaGreatDoor
open Go.RowKit
set_option linter.unusedVariables false
def cmF (p q : Rat) : Int := if sgQ p ≠ sgQ q then sgQ p - sgQ q else if p.num < 0 then -ordN (p.num.natAbs * q.den) (q.num.natAbs * p.den) else ordN (p.num.natAbs * q.den) (q.num.natAbs * p.den)
theorem sgQ_scale {q : Rat} {d : Nat} (hd : 0 < d) : sgQ q = sgnZ (q.num * (d : Int)) := by
  have hd' : (0 : Int) < (d : Int) := by omega
  unfold sgQ sgnZ
  by_cases h0 : q.num = 0
  · rw [if_pos h0, h0, Int.zero_mul, if_pos rfl]
  · rw [if_neg h0]
    have hne : q.num * (d : Int) ≠ 0 := Int.mul_ne_zero h0 (by omega)
    rw [if_neg hne]
    by_cases h1 : q.num < 0
    · rw [if_pos h1, if_pos (Int.mul_neg_of_neg_of_pos h1 hd')]
    · rw [if_neg h1, if_neg (by have := Int.mul_pos (a := q.num) (b := (d : Int)) (by omega) hd'; omega)]
theorem clamp_int {P Q : Int} {a b : Nat} (ha : P.natAbs = a) (hb : Q.natAbs = b) :
    max (-1) (min 1 (if sgnZ P ≠ sgnZ Q then sgnZ P - sgnZ Q else if P < 0 then -ordN a b else ordN a b)) = sgnZ (P - Q) := by
  unfold sgnZ ordN
  split <;> (repeat' split) <;> omega
theorem cmF_clamp (p q : Rat) : max (-1) (min 1 (cmF p q)) = ordQ p q := by
  have e1 : ordQ p q = sgnZ (p.num * q.den - q.num * p.den) := by
    have h := ordQ_mk (a := p.num) (b := p.den) (c := q.num) (d := q.den) p.den_nz q.den_nz
    rw [Rat.mkRat_self, Rat.mkRat_self] at h
    exact h
  have h1 := sgQ_scale (q := p) (d := q.den) q.den_pos
  have h2 := sgQ_scale (q := q) (d := p.den) p.den_pos
  have hP : (p.num * (q.den : Int)).natAbs = p.num.natAbs * q.den := by rw [Int.natAbs_mul, Int.natAbs_natCast]
  have hQ : (q.num * (p.den : Int)).natAbs = q.num.natAbs * p.den := by rw [Int.natAbs_mul, Int.natAbs_natCast]
  have hs : p.num < 0 ↔ p.num * (q.den : Int) < 0 := by
    have hd : (0 : Int) < (q.den : Int) := by have := q.den_pos; omega
    constructor
    · intro h; exact Int.mul_neg_of_neg_of_pos h hd
    · intro h
      rcases Int.lt_or_le p.num 0 with h' | h'
      · exact h'
      · exact absurd (Int.mul_nonneg h' (Int.le_of_lt hd)) (by omega)
  rw [e1, ← clamp_int hP hQ, ← h1, ← h2]
  unfold cmF
  simp only [hs]
theorem cmF_sign (p q : Rat) : (0 < cmF p q ↔ 0 < ordQ p q) ∧ (cmF p q < 0 ↔ ordQ p q < 0) ∧ (cmF p q = 0 ↔ ordQ p q = 0) := by
  have := cmF_clamp p q
  omega
end Go.Proofs.YtlimaehdmcnjaaaGreatDoor
