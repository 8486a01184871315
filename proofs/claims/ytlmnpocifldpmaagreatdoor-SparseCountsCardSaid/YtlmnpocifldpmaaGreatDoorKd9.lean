/- Texts that the proof rests on, merged: Fr2, Fr1b, Fr4, Rt4, Rt5, Cr0, Lr0, Fx0, Df0, Rq0, Fd14, KoA, Tz, Pct0, Sq0, Sq3, Sq4, Sq2, Sw0, Sw1, Sw3, Sct0, Sa1, Sa3, Sw2, AtZ. -/
import Derived.Test.YtlmnpocifldpmaaGreatDoorKd8
import Derived.Lib.SliceRun
import Derived.Deep.DeepCutAuto
import Derived.Deep.AppendLies
import Derived.WalkLawsBesides
set_option linter.unusedVariables false
set_option linter.unusedSimpArgs false
set_option linter.unusedSectionVars false
set_option maxRecDepth 100000
set_option maxHeartbeats 8000000
namespace Go.Proofs.YtlmnpocifldpmaaGreatDoor
open Go.RowKit
def twoF (b : Nat) (m1 m2 : Bool) (n1 d1 n2 d2 : Value) (w : World) : Prop :=
 w.cell? ⟨b, 0, none⟩ = some (.bool m1) ∧ w.cell? ⟨b, 1, none⟩ = some n1 ∧ w.cell? ⟨b, 2, none⟩ = some d1 ∧ w.cell? ⟨b + 1, 0, none⟩ = some (.bool m2) ∧ w.cell? ⟨b + 1, 1, none⟩ = some n2 ∧ w.cell? ⟨b + 1, 2, none⟩ = some d2
structure Three (w W : World) (m1 m2 : Bool) (n1 d1 n2 d2 : Value) : Prop where
 below : Below w.heap.size w W
 size : W.heap.size = w.heap.size + 3
 b0 : Blk W w.heap.size #[.bool m1, n1, d1] 94
 b1 : Blk W (w.heap.size + 1) #[.bool m2, n2, d2] 94
 b2 : Blk W (w.heap.size + 1 + 1) #[.bool false, .slice none 0 0, .slice none 0 0] 94
theorem Three.mk' {w W : World} {m1 m2 : Bool} {n1 d1 n2 d2 : Value} (h : ((w.alloc (.cells #[.bool m1, n1, d1] 94)).alloc (.cells #[.bool m2, n2, d2] 94)).alloc (.cells #[.bool false, .slice none 0 0, .slice none 0 0] 94) = W) : Three w W m1 m2 n1 d1 n2 d2 := by
 subst h
 exact ⟨(((Below.refl _ _).alloc (Nat.le_refl _) _).alloc (by simp) _).alloc (by simp; omega) _, by simp, ((Blk.new w _ _).alloc _).alloc _, (Blk.made (w.alloc _) _ _ (by simp)).alloc _, Blk.made ((w.alloc _).alloc _) _ _ (by simp)⟩
theorem Three.cells {w W V : World} {m1 m2 : Bool} {n1 d1 n2 d2 : Value} (h : Three w W m1 m2 n1 d1 n2 d2) (hb : Below W.heap.size W V) : twoF w.heap.size m1 m2 n1 d1 n2 d2 V :=
 have y0 := h.b0.call hb
 have y1 := h.b1.call hb
 ⟨y0.cell 0, y0.cell 1, y0.cell 2, y1.cell 0, y1.cell 1, y1.cell 2⟩
theorem Three.stored {w W V : World} {m1 m2 : Bool} {n1 d1 n2 d2 : Value} (h : Three w W m1 m2 n1 d1 n2 d2) (hb : Below W.heap.size W V) (x y z : Value) : twoF w.heap.size m1 m2 n1 d1 n2 d2 (((V.setCell ⟨w.heap.size + 1 + 1, 0, none⟩ x).setCell ⟨w.heap.size + 1 + 1, 1, none⟩ y).setCell ⟨w.heap.size + 1 + 1, 2, none⟩ z) :=
 have y0 := ((((h.b0.call hb).other (a := ⟨w.heap.size + 1 + 1, 0, none⟩) (by simp; omega) x).other (a := ⟨w.heap.size + 1 + 1, 1, none⟩) (by simp; omega) y).other (a := ⟨w.heap.size + 1 + 1, 2, none⟩) (by simp; omega) z)
 have y1 := ((((h.b1.call hb).other (a := ⟨w.heap.size + 1 + 1, 0, none⟩) (by simp) x).other (a := ⟨w.heap.size + 1 + 1, 1, none⟩) (by simp) y).other (a := ⟨w.heap.size + 1 + 1, 2, none⟩) (by simp) z)
 ⟨y0.cell 0, y0.cell 1, y0.cell 2, y1.cell 0, y1.cell 1, y1.cell 2⟩
theorem f_Mul (w : World) (v u : Value) (p q : Rat) (hp : IsQ .u64 w v p) (hq : IsQ .u64 w u q)
 (h1 : (limbs p.num.natAbs).length ≤ 100000) (h2 : (limbs p.den).length ≤ 100000) (h3 : (limbs q.num.natAbs).length ≤ 100000) (h4 : (limbs q.den).length ≤ 100000) :
 Calls Tryz.prog 123 #[v, u] w fun e w' => RetQ .u64 (p * q) e w' ∧ Below w.heap.size w w' := by
 have hq0 := qmk_mul p q
 obtain ⟨Q, hQ⟩ : ∃ Q, p * q = Q := ⟨_, rfl⟩
 rw [hQ] at hq0 ⊢
 have hD := hid (Nat.mul_pos p.den_pos q.den_pos)
 obtain ⟨N1, D1, rfl, hn1, hd1⟩ := hp.ex
 obtain ⟨N2, D2, rfl, hn2, hd2⟩ := hq.ex
 clear hp hq hQ
 generalize decide (p.num < 0) = m1 at *
 generalize decide (q.num < 0) = m2 at *
 generalize p.num.natAbs = n1 at *
 generalize q.num.natAbs = n2 at *
 generalize p.den = d1 at *
 generalize q.den = d2 at *
 have HQ := hid hq0
 clear hq0
 have HN1 := hid hn1; have HD1 := hid hd1; have HN2 := hid hn2; have HD2 := hid hd2
 have L1 := hid (Nat.le_trans (len_mul h1 h3) (show 100000 + 100000 ≤ 1000000 by omega))
 have L2 := hid (Nat.le_trans (len_mul h2 h4) (show 100000 + 100000 ≤ 1000000 by omega))
 have H1 := hid (Nat.le_trans h1 (show 100000 ≤ 1000000 by omega))
 have H2 := hid (Nat.le_trans h2 (show 100000 ≤ 1000000 by omega))
 have H3 := hid (Nat.le_trans h3 (show 100000 ≤ 1000000 by omega))
 have H4 := hid (Nat.le_trans h4 (show 100000 ≤ 1000000 by omega))
 clear h1 h2 h3 h4
 obtain ⟨a1, c1, rfl, _⟩ := hn1.openI
 obtain ⟨a2, c2, rfl, _⟩ := hd1.openI
 obtain ⟨a3, c3, rfl, _⟩ := hn2.openI
 obtain ⟨a4, c4, rfl, _⟩ := hd2.openI
 clear hn1 hd1 hn2 hd2
 go_enter Tryz.func123, Tryz.ntmps123
 go_wp2_with fail
 obtain ⟨W, hW⟩ : ∃ W, ((w.alloc (.cells #[.bool m1, .slice a1 (limbs n1).length c1, .slice a2 (limbs d1).length c2] 94)).alloc (.cells #[.bool m2, .slice a3 (limbs n2).length c3, .slice a4 (limbs d2).length c4] 94)).alloc (.cells #[.bool false, .slice none 0 0, .slice none 0 0] 94) = W := ⟨_, rfl⟩
 have T := hid (Three.mk' hW)
 rw [hW]
 clear hW
 have hS := T.out.cells (Below.refl _ _).drew
 have B0 := hid (T.out.below.drew)
 have C0 := hid ((Below.refl W.heap.size W).drew)
 refine held_plain [0, 1, 2, 3, 4, 5, 6, 7, 8, 10, 11, 12, 13] 4 (twoF w.heap.size m1 m2 (.slice a1 (limbs n1).length c1) (.slice a2 (limbs d1).length c2) (.slice a3 (limbs n2).length c3) (.slice a4 (limbs d2).length c4)) (by kernel_rfl) (by kernel_rfl) (by kernel_rfl) (by kernel_rfl) hS ?_
 iterate 13
  refine ⟨_, rfl, ?_⟩
  apply Exists.intro
  refine ⟨.inl ⟨by rfl, ?_⟩, ?_⟩
  ·(intro W' hW'; obtain ⟨q1, q2, q3, q4, q5, q6⟩ := hW'; go_simp; try (with_reducible rfl))
  (dsimp only [Act.put]; try simp only [List.setIfInBounds_toArray, List.set_cons_zero, List.set_cons_succ])
 clear hS
 refine held_one (i := 9) (by kernel_rfl) (by rfl) (by rfl) ?_
 go_wp2_with fail
 refine (l_Mul _ _ _ n1 n2 (HN1.out.call B0.out) (HN2.out.call B0.out) H1.out H3.out).mono ?_; rintro e w1 ⟨⟨v1, rfl, hv1⟩, hb1⟩
 have B1 := hid (B0.out.trans (hb1.mono B0.out.size)); have C1 := hid (bnext C0.out hb1); have V1 := hid hv1
 clear hb1 hv1
 go_wp2_with fail
 refine ⟨T.out.cells C1.out, ?_⟩
 refine held_one (i := 14) (by kernel_rfl) (by rfl) (by rfl) ?_
 go_wp2_with fail
 refine (l_Mul _ _ _ d1 d2 (HD1.out.call B1.out) (HD2.out.call B1.out) H2.out H4.out).mono ?_; rintro e w2 ⟨⟨v2, rfl, hv2⟩, hb2⟩
 have B2 := hid (B1.out.trans (hb2.mono B1.out.size)); have C2 := hid (bnext C1.out hb2); have V2 := hid hv2; have W1 := hid (V1.out.call hb2)
 clear hb2 hv2
 go_wp2_with fail
 refine ⟨T.out.cells C2.out, ?_⟩
 refine held_one (i := 15) (by kernel_rfl) (by rfl) (by rfl) ?_
 go_wp2_with fail
 refine (f_Make _ _ _ _ (n1 * n2) (d1 * d2) W1.out V2.out hD.out L1.out L2.out).mono ?_; rintro e w3 ⟨⟨v3, rfl, hv3⟩, hb3⟩
 have hbn : (!(m1 == m2)) = (m1 != m2) := rfl
 rw [hbn, HQ.out] at hv3
 clear hbn
 have B3 := hid (B2.out.trans (hb3.mono B2.out.size)); have C3 := hid (bnext C2.out hb3)
 clear hb3
 obtain ⟨N3, D3, rfl, hN3, hD3⟩ := hv3.ex
 obtain ⟨a5, c5, rfl, _⟩ := hN3.openI
 obtain ⟨a6, c6, rfl, _⟩ := hD3.openI
 obtain ⟨k5, hk5⟩ : ∃ k, (limbs Q.num.natAbs).length = k := ⟨_, rfl⟩
 obtain ⟨k6, hk6⟩ : ∃ k, (limbs Q.den).length = k := ⟨_, rfl⟩
 obtain ⟨mq, hmq⟩ : ∃ m, decide (Q.num < 0) = m := ⟨_, rfl⟩
 rw [hk5] at hN3 ⊢
 rw [hk6] at hD3 ⊢
 rw [hmq]
 have HN3 := hid hN3; have HD3 := hid hD3; have HMQ := hid hmq
 have Z := hid (T.out.b2.call C3.out)
 have t0 := Z.out.cell 0
 have t1 := Z.out.cell 1
 have t2 := Z.out.cell 2
 have t3 := Z.out.free 0
 have t4 := Z.out.free 1
 have t5 := Z.out.free 2
 simp at t0 t1 t2
 clear hv3 hN3 hD3 hk5 hk6 hmq
 go_wp2_with fail
 refine ⟨T.out.cells C3.out, ?_⟩
 refine held_one (i := 16) (by kernel_rfl) (by rfl) (by rfl) ?_
 go_wp2_with fail
 refine ⟨T.out.stored C3.out _ _ _, ?_⟩
 refine wpAnyH_done (by kernel_rfl) ?_ _
 simp only [Only]
 obtain ⟨s1, s2⟩ := set3 Z.out mq a5 a6 k5 c5 k6 c6
 have f0 := s2.cell 0
 have f1 := s2.cell 1
 have f2 := s2.cell 2
 simp at f0 f1 f2
 clear t0 t1 t2 t3 t4 t5
 go_wp2_with fail
 refine bodyPost_ret (v := .agg #[.bool mq, .slice a5 k5 c5, .slice a6 k6 c6]) (by simp [results, Tryz.results123, go_sem, f0, f1, f2]) rfl ⟨⟨_, rfl, ⟨.slice a5 k5 c5, .slice a6 k6 c6, by rw [HMQ.out], s1 _ _ _ HN3.out, s1 _ _ _ HD3.out⟩⟩, ?_⟩
 exact ((B3.out.setCell (by simp; omega) _).setCell (by simp; omega) _).setCell (by simp; omega) _
open Go.Lib (decDigits nDigits)
theorem neg_partsU {q : Rat} {m : Bool} (hm : decide (q.num < 0) = m) : decide ((-q).num < 0) = (!m && !isZ q.num.natAbs) ∧ (-q).num.natAbs = q.num.natAbs ∧ (-q).den = q.den := by
 refine ⟨?_, by rw [Rat.neg_num, Int.natAbs_neg], Rat.neg_den q⟩
 rw [Rat.neg_num, ← hm, Bool.eq_iff_iff]
 unfold isZ
 simp only [Bool.and_eq_true, Bool.not_eq_true', decide_eq_true_eq, decide_eq_false_iff_not]
 omega
theorem f_Neg (w : World) (v : Value) (q : Rat) (h : IsQ .u64 w v q) :
 Calls Tryz.prog 225 #[v] w fun e w' => RetQ .u64 (-q) e w' ∧ Below w.heap.size w w' := by
 obtain ⟨N, D, rfl, hn, hd⟩ := h.ex
 obtain ⟨m, hm⟩ : ∃ m, decide (q.num < 0) = m := ⟨_, rfl⟩
 have HN := hid hn; have HD := hid hd; have HP := hid (neg_partsU hm)
 rw [hm]
 obtain ⟨a1, c1, rfl, _⟩ := hn.openI
 obtain ⟨a2, c2, rfl, _⟩ := hd.openI
 obtain ⟨k1, hk1⟩ : ∃ k, (limbs q.num.natAbs).length = k := ⟨_, rfl⟩
 obtain ⟨k2, hk2⟩ : ∃ k, (limbs q.den).length = k := ⟨_, rfl⟩
 rw [hk1] at HN ⊢
 rw [hk2] at HD ⊢
 have HZ := fun W h => hid (l_Zero W (.slice a1 k1 c1) q.num.natAbs h)
 obtain ⟨z, hz⟩ : ∃ z, isZ q.num.natAbs = z := ⟨_, rfl⟩
 rw [hz] at HP HZ
 clear hn hd hm h hk1 hk2 hz
 have b1 := hid (((Below.refl w.heap.size w).alloc (Nat.le_refl _) (.cells #[.bool m, .slice a1 k1 c1, .slice a2 k2 c2] 94)).alloc (by simp) (.cells #[.bool false, .slice none 0 0, .slice none 0 0] 94))
 cases m
 ·go_enter Tryz.func225, Tryz.ntmps225
  go_wp2_with fail
  refine region_tail 14 (by kernel_rfl) (by kernel_rfl) ?_
  simp only [List.take_succ_cons, List.take_zero, List.drop_succ_cons, List.drop_zero]
  iterate 6 still_step
  still_call ((HZ _ (HN.out.call b1.out.drew)).out.mono fun _ _ h => ⟨h.1, h.2.symm⟩)
  iterate 7 still_step
  refine wpStill_nil ?_
  go_wp2_with fail
  have b2 := (((Below.refl w.heap.size w).alloc (Nat.le_refl _) (.cells #[.bool false, .slice a1 k1 c1, .slice a2 k2 c2] 94)).alloc (by simp) (.cells #[.bool (!z), .slice a1 k1 c1, .slice a2 k2 c2] 94)).drew
  obtain ⟨p1, p2, p3⟩ := HP.out
  refine bodyPost_ret (v := .agg #[.bool (!z), .slice a1 k1 c1, .slice a2 k2 c2]) (by simp [results, Tryz.results225, go_sem]) rfl ⟨⟨_, rfl, ⟨.slice a1 k1 c1, .slice a2 k2 c2, ?_, ?_, ?_⟩⟩, b2⟩
  ·rw [p1]; rfl
  ·rw [p2]; exact HN.out.call b2
  ·rw [p3]; exact HD.out.call b2
 ·go_enter Tryz.func225, Tryz.ntmps225
  go_wp2_with fail
  refine region_tail 14 (by kernel_rfl) (by kernel_rfl) ?_
  simp only [List.take_succ_cons, List.take_zero, List.drop_succ_cons, List.drop_zero]
  iterate 14 still_step
  refine wpStill_nil ?_
  go_wp2_with fail
  have b2 := (((Below.refl w.heap.size w).alloc (Nat.le_refl _) (.cells #[.bool true, .slice a1 k1 c1, .slice a2 k2 c2] 94)).alloc (by simp) (.cells #[.bool false, .slice a1 k1 c1, .slice a2 k2 c2] 94)).drew
  obtain ⟨p1, p2, p3⟩ := HP.out
  refine bodyPost_ret (v := .agg #[.bool false, .slice a1 k1 c1, .slice a2 k2 c2]) (by simp [results, Tryz.results225, go_sem]) rfl ⟨⟨_, rfl, ⟨.slice a1 k1 c1, .slice a2 k2 c2, ?_, ?_, ?_⟩⟩, b2⟩
  ·rw [p1]; rfl
  ·rw [p2]; exact HN.out.call b2
  ·rw [p3]; exact HD.out.call b2
end Go.Proofs.YtlmnpocifldpmaaGreatDoor
namespace Go.Proofs.YtlmnpocifldpmaaGreatDoor
open Go.RowKit
theorem q_add_same {p q : Rat} {m : Bool} (h1 : decide (p.num < 0) = m) (h2 : decide (q.num < 0) = m) : qmk m (p.num.natAbs * q.den + q.num.natAbs * p.den) (p.den * q.den) = p + q := by
 rw [q_add, h1, h2, sgn_same]; rfl
theorem q_add_less {p q : Rat} {m1 m2 : Bool} (h1 : decide (p.num < 0) = m1) (h2 : decide (q.num < 0) = m2) (h : m1 ≠ m2) (hl : p.num.natAbs * q.den < q.num.natAbs * p.den) : qmk m2 (q.num.natAbs * p.den - p.num.natAbs * q.den) (p.den * q.den) = p + q := by
 rw [q_add, h1, h2, sgn_less h hl]; rfl
theorem q_add_more {p q : Rat} {m1 m2 : Bool} (h1 : decide (p.num < 0) = m1) (h2 : decide (q.num < 0) = m2) (h : m1 ≠ m2) (hl : q.num.natAbs * p.den ≤ p.num.natAbs * q.den) : qmk m1 (p.num.natAbs * q.den - q.num.natAbs * p.den) (p.den * q.den) = p + q := by
 rw [q_add, h1, h2, sgn_more h hl]; rfl
theorem f_Add (w : World) (v u : Value) (p q : Rat) (hp : IsQ .u64 w v p) (hq : IsQ .u64 w u q)
 (h1 : (limbs p.num.natAbs).length ≤ 100000) (h2 : (limbs p.den).length ≤ 100000) (h3 : (limbs q.num.natAbs).length ≤ 100000) (h4 : (limbs q.den).length ≤ 100000) :
 Calls Tryz.prog 54 #[v, u] w fun e w' => RetQ .u64 (p + q) e w' ∧ Below w.heap.size w w' := by
 obtain ⟨m1, hm1⟩ : ∃ m, decide (p.num < 0) = m := ⟨_, rfl⟩
 obtain ⟨m2, hm2⟩ : ∃ m, decide (q.num < 0) = m := ⟨_, rfl⟩
 have s1 := fun (e : m1 = m2) => q_add_same (m := m1) hm1 (hm2.trans e.symm)
 have s2 := q_add_less hm1 hm2
 have s3 := q_add_more hm1 hm2
 obtain ⟨Q, hQ⟩ : ∃ Q, p + q = Q := ⟨_, rfl⟩
 rw [hQ] at s1 s2 s3 ⊢
 have hD := hid (Nat.mul_pos p.den_pos q.den_pos)
 obtain ⟨N1, D1, rfl, hn1, hd1⟩ := hp.ex
 obtain ⟨N2, D2, rfl, hn2, hd2⟩ := hq.ex
 rw [hm1, hm2]
 clear hp hq hQ hm1 hm2
 generalize p.num.natAbs = n1 at *
 generalize q.num.natAbs = n2 at *
 generalize p.den = d1 at *
 generalize q.den = d2 at *
 have S1 := hid s1; have S2 := hid s2; have S3 := hid s3
 have HN1 := hid hn1; have HD1 := hid hd1; have HN2 := hid hn2; have HD2 := hid hd2
 have lx := len_mul h1 h4
 have ly := len_mul h3 h2
 have ld := len_mul h2 h4
 have LX := hid (Nat.le_trans lx (show 100000 + 100000 ≤ 200000 by omega)); have LY := hid (Nat.le_trans ly (show 100000 + 100000 ≤ 200000 by omega)); have LD := hid (Nat.le_trans ld (show 100000 + 100000 ≤ 1000000 by omega))
 have LXY := hid (Nat.le_trans (len_add lx ly) (show 100000 + 100000 + (100000 + 100000) + 1 ≤ 1000000 by omega))
 have H1 := hid (Nat.le_trans h1 (show 100000 ≤ 1000000 by omega))
 have H2 := hid (Nat.le_trans h2 (show 100000 ≤ 1000000 by omega))
 have H3 := hid (Nat.le_trans h3 (show 100000 ≤ 1000000 by omega))
 have H4 := hid (Nat.le_trans h4 (show 100000 ≤ 1000000 by omega))
 clear h1 h2 h3 h4 lx ly ld s1 s2 s3
 obtain ⟨a1, c1, rfl, _⟩ := hn1.openI
 obtain ⟨a2, c2, rfl, _⟩ := hd1.openI
 obtain ⟨a3, c3, rfl, _⟩ := hn2.openI
 obtain ⟨a4, c4, rfl, _⟩ := hd2.openI
 clear hn1 hd1 hn2 hd2
 go_enter Tryz.func54, Tryz.ntmps54
 go_wp2_with fail
 obtain ⟨W, hW⟩ : ∃ W, ((w.alloc (.cells #[.bool m1, .slice a1 (limbs n1).length c1, .slice a2 (limbs d1).length c2] 94)).alloc (.cells #[.bool m2, .slice a3 (limbs n2).length c3, .slice a4 (limbs d2).length c4] 94)).alloc (.cells #[.bool false, .slice none 0 0, .slice none 0 0] 94) = W := ⟨_, rfl⟩
 have T := hid (Three.mk' hW)
 rw [hW]
 clear hW
 have hS := T.out.cells (Below.refl _ _).drew
 have B0 := hid (T.out.below.drew)
 have C0 := hid ((Below.refl W.heap.size W).drew)
 refine held_plain [0, 1, 2, 3, 5, 6, 7, 8] 4 (twoF w.heap.size m1 m2 (.slice a1 (limbs n1).length c1) (.slice a2 (limbs d1).length c2) (.slice a3 (limbs n2).length c3) (.slice a4 (limbs d2).length c4)) (by kernel_rfl) (by kernel_rfl) (by kernel_rfl) (by kernel_rfl) hS ?_
 iterate 8
  refine ⟨_, rfl, ?_⟩
  apply Exists.intro
  refine ⟨.inl ⟨by rfl, ?_⟩, ?_⟩
  ·(intro W' hW'; obtain ⟨q1, q2, q3, q4, q5, q6⟩ := hW'; go_simp; try (with_reducible rfl))
  (dsimp only [Act.put]; try simp only [List.setIfInBounds_toArray, List.set_cons_zero, List.set_cons_succ])
 clear hS
 refine held_one (i := 4) (by kernel_rfl) (by rfl) (by rfl) ?_
 go_wp2_with fail
 refine (l_Mul _ _ _ n1 d2 (HN1.out.call B0.out) (HD2.out.call B0.out) H1.out H4.out).mono ?_; rintro e w1 ⟨⟨v1, rfl, hv1⟩, hb1⟩
 have B1 := hid (B0.out.trans (hb1.mono B0.out.size)); have C1 := hid (bnext C0.out hb1); have V1 := hid hv1
 clear hb1 hv1
 go_wp2_with fail
 refine ⟨T.out.cells C1.out, ?_⟩
 refine held_one (i := 9) (by kernel_rfl) (by rfl) (by rfl) ?_
 go_wp2_with fail
 refine (l_Mul _ _ _ n2 d1 (HN2.out.call B1.out) (HD1.out.call B1.out) H3.out H2.out).mono ?_; rintro e w2 ⟨⟨v2, rfl, hv2⟩, hb2⟩
 have B2 := hid (B1.out.trans (hb2.mono B1.out.size)); have C2 := hid (bnext C1.out hb2); have V2 := hid hv2; have W1 := hid (V1.out.call hb2)
 clear hb2 hv2
 go_wp2_with fail
 refine ⟨T.out.cells C2.out, ?_⟩
 refine held_more (is := [10, 11]) (g := 0) (by kernel_rfl) rfl (T.out.cells C2.out) (by kernel_rfl) ?_
 iterate 2
  refine ⟨_, rfl, ?_⟩
  apply Exists.intro
  refine ⟨.inl ⟨by rfl, ?_⟩, ?_⟩
  ·(intro W' hW'; clear hW'; go_simp; try (with_reducible rfl))
  (dsimp only [Act.put]; try simp only [List.setIfInBounds_toArray, List.set_cons_zero, List.set_cons_succ])
 refine wpAnyH_done (by kernel_rfl) ?_ _
 simp only [Only]
 obtain ⟨k0, k1, k2, k3, k4, k5⟩ := T.out.cells C2.out
 go_wp2_with fail
 refine (l_Mul _ _ _ d1 d2 (HD1.out.call B2.out) (HD2.out.call B2.out) H2.out H4.out).mono ?_; rintro e w3 ⟨⟨v3, rfl, hv3⟩, hb3⟩
 have B3 := hid (B2.out.trans (hb3.mono B2.out.size)); have C3 := hid (bnext C2.out hb3); have V3 := hid hv3; have X1 := hid (W1.out.call hb3); have X2 := hid (V2.out.call hb3)
 clear hb3 hv3 k0 k1 k2 k3 k4 k5
 go_wp2_with fail
 refine (l_Cmp _ _ _ (n1 * d2) (n2 * d1) X1.out X2.out (Nat.le_trans LX.out (by omega))).mono ?_; rintro e w4 ⟨rfl, hb4⟩
 have B4 := hid (B3.out.trans (hb4.mono B3.out.size)); have C4 := hid (bnext C3.out hb4); have V4 := hid (V3.out.call hb4); have Y1 := hid (X1.out.call hb4); have Y2 := hid (X2.out.call hb4)
 clear hb4
 obtain ⟨k0, k1, k2, k3, k4, k5⟩ := T.out.cells C4.out
 clear B0 B1 B2 B3 C0 C1 C2 C3 V1 V2 V3 W1 X1 X2
 obtain ⟨X, hX⟩ : ∃ X, n1 * d2 = X := ⟨_, rfl⟩
 obtain ⟨Y, hY⟩ : ∃ X, n2 * d1 = X := ⟨_, rfl⟩
 obtain ⟨E, hE⟩ : ∃ X, d1 * d2 = X := ⟨_, rfl⟩
 rw [hX] at S1 S2 S3 LX LXY Y1 ⊢
 rw [hY] at S1 S2 S3 LY LXY Y2 ⊢
 rw [hE] at S1 S2 S3 LD V4 hD
 clear hX hY hE
 by_cases em : m1 = m2
 ·have SA := hid (S1.out em)
  subst em
  have q0 : (m1 == m1) = true := beq_self_eq_true m1
  go_wp2_with fail
  have hS := T.out.cells C4.out.drew
  have B0 := hid B4.out.drew
  have C0 := hid C4.out.drew
  refine held_plain [0, 1, 2, 3, 5] 3 (twoF w.heap.size m1 m1 (.slice a1 (limbs n1).length c1) (.slice a2 (limbs d1).length c2) (.slice a3 (limbs n2).length c3) (.slice a4 (limbs d2).length c4)) (by kernel_rfl) (by kernel_rfl) (by kernel_rfl) (by kernel_rfl) hS ?_
  iterate 5
   refine ⟨_, rfl, ?_⟩
   apply Exists.intro
   refine ⟨.inl ⟨by rfl, ?_⟩, ?_⟩
   ·(intro W' hW'; obtain ⟨q1, q2, q3, q4, q5, q6⟩ := hW'; go_simp; try (with_reducible rfl))
   (dsimp only [Act.put]; try simp only [List.setIfInBounds_toArray, List.set_cons_zero, List.set_cons_succ])
  clear hS
  refine held_one (i := 4) (by kernel_rfl) (by rfl) (by rfl) ?_
  go_wp2_with fail
  refine (l_Add _ _ _ X Y (Y1.out.call (Below.refl _ _).drew) (Y2.out.call (Below.refl _ _).drew) (Nat.le_trans LX.out (by omega)) (Nat.le_trans LY.out (by omega))).mono ?_; rintro e w5 ⟨⟨v5, rfl, hv5⟩, hb5⟩
  have B5 := hid (B0.out.trans (hb5.mono B0.out.size)); have C5 := hid (C0.out.trans (hb5.mono C0.out.size)); have V5 := hid hv5; have E5 := hid (V4.out.call (show Below w4.heap.size w4 w5 from (Below.refl _ _).drew.trans hb5))
  clear hb5 hv5
  go_wp2_with fail
  refine ⟨T.out.cells C5.out, ?_⟩
  refine held_one (i := 6) (by kernel_rfl) (by rfl) (by rfl) ?_
  go_wp2_with fail
  refine (f_Make _ _ _ _ (X + Y) E V5.out E5.out hD.out (LXY.out) LD.out).mono ?_; rintro e w6 ⟨⟨v3, rfl, hv3⟩, hb6⟩
  rw [SA.out] at hv3
  have B6 := hid (B5.out.trans (hb6.mono B5.out.size)); have C6 := hid (C5.out.trans (hb6.mono C5.out.size))
  clear hb6
  obtain ⟨N3, D3, rfl, hN3, hD3⟩ := hv3.ex
  obtain ⟨a5, c5, rfl, _⟩ := hN3.openI
  obtain ⟨a6, c6, rfl, _⟩ := hD3.openI
  obtain ⟨k5, hk5⟩ : ∃ k, (limbs Q.num.natAbs).length = k := ⟨_, rfl⟩
  obtain ⟨k6, hk6⟩ : ∃ k, (limbs Q.den).length = k := ⟨_, rfl⟩
  obtain ⟨mq, hmq⟩ : ∃ m, decide (Q.num < 0) = m := ⟨_, rfl⟩
  rw [hk5] at hN3 ⊢
  rw [hk6] at hD3 ⊢
  rw [hmq]
  have HN3 := hid hN3; have HD3 := hid hD3; have HMQ := hid hmq
  have Z := hid (T.out.b2.call C6.out)
  have t0 := Z.out.cell 0
  have t1 := Z.out.cell 1
  have t2 := Z.out.cell 2
  have t3 := Z.out.free 0
  have t4 := Z.out.free 1
  have t5 := Z.out.free 2
  simp at t0 t1 t2
  clear hv3 hN3 hD3 hk5 hk6 hmq
  go_wp2_with fail
  refine ⟨T.out.cells C6.out, ?_⟩
  refine held_one (i := 7) (by kernel_rfl) (by rfl) (by rfl) ?_
  go_wp2_with fail
  refine ⟨T.out.stored C6.out _ _ _, ?_⟩
  refine wpAnyH_done (by kernel_rfl) ?_ _
  simp only [Only]
  obtain ⟨s1, s2⟩ := set3 Z.out mq a5 a6 k5 c5 k6 c6
  have f0 := s2.cell 0
  have f1 := s2.cell 1
  have f2 := s2.cell 2
  simp at f0 f1 f2
  clear t0 t1 t2 t3 t4 t5
  go_wp2_with fail
  refine bodyPost_ret (v := .agg #[.bool mq, .slice a5 k5 c5, .slice a6 k6 c6]) (by simp [results, Tryz.results54, go_sem, f0, f1, f2]) rfl ⟨⟨_, rfl, ⟨.slice a5 k5 c5, .slice a6 k6 c6, by rw [HMQ.out], s1 _ _ _ HN3.out, s1 _ _ _ HD3.out⟩⟩, ?_⟩
  exact ((B6.out.setCell (by simp; omega) _).setCell (by simp; omega) _).setCell (by simp; omega) _
 ·have q0 : (m1 == m2) = false := by simpa using em
  have HE := hid em
  clear em
  by_cases hc : X < Y
  ·have HC := hid hc
   rw [ordN_lt hc]
   clear hc
   go_wp2_with fail
   have hS := T.out.cells C4.out.drew
   have B0 := hid B4.out.drew
   have C0 := hid C4.out.drew
   refine held_plain [0, 1, 2, 3, 5] 3 (twoF w.heap.size m1 m2 (.slice a1 (limbs n1).length c1) (.slice a2 (limbs d1).length c2) (.slice a3 (limbs n2).length c3) (.slice a4 (limbs d2).length c4)) (by kernel_rfl) (by kernel_rfl) (by kernel_rfl) (by kernel_rfl) hS ?_
   iterate 5
    refine ⟨_, rfl, ?_⟩
    apply Exists.intro
    refine ⟨.inl ⟨by rfl, ?_⟩, ?_⟩
    ·(intro W' hW'; obtain ⟨q1, q2, q3, q4, q5, q6⟩ := hW'; go_simp; try (with_reducible rfl))
    (dsimp only [Act.put]; try simp only [List.setIfInBounds_toArray, List.set_cons_zero, List.set_cons_succ])
   clear hS
   refine held_one (i := 4) (by kernel_rfl) (by rfl) (by rfl) ?_
   go_wp2_with fail
   refine (l_Sub _ _ _ Y X (Y2.out.call (Below.refl _ _).drew) (Y1.out.call (Below.refl _ _).drew) (Nat.le_of_lt HC.out) (Nat.le_trans LY.out (by omega))).mono ?_; rintro e w5 ⟨⟨v5, rfl, hv5⟩, hb5⟩
   have B5 := hid (B0.out.trans (hb5.mono B0.out.size)); have C5 := hid (C0.out.trans (hb5.mono C0.out.size)); have V5 := hid hv5; have E5 := hid (V4.out.call (show Below w4.heap.size w4 w5 from (Below.refl _ _).drew.trans hb5))
   clear hb5 hv5
   go_wp2_with fail
   refine ⟨T.out.cells C5.out, ?_⟩
   refine held_one (i := 6) (by kernel_rfl) (by rfl) (by rfl) ?_
   go_wp2_with fail
   refine (f_Make _ _ _ _ (Y - X) E V5.out E5.out hD.out (Nat.le_trans (limbs_length_mono (Nat.sub_le Y X)) (Nat.le_trans LY.out (by omega))) LD.out).mono ?_; rintro e w6 ⟨⟨v3, rfl, hv3⟩, hb6⟩
   rw [S2.out HE.out HC.out] at hv3
   have B6 := hid (B5.out.trans (hb6.mono B5.out.size)); have C6 := hid (C5.out.trans (hb6.mono C5.out.size))
   clear hb6
   obtain ⟨N3, D3, rfl, hN3, hD3⟩ := hv3.ex
   obtain ⟨a5, c5, rfl, _⟩ := hN3.openI
   obtain ⟨a6, c6, rfl, _⟩ := hD3.openI
   obtain ⟨k5, hk5⟩ : ∃ k, (limbs Q.num.natAbs).length = k := ⟨_, rfl⟩
   obtain ⟨k6, hk6⟩ : ∃ k, (limbs Q.den).length = k := ⟨_, rfl⟩
   obtain ⟨mq, hmq⟩ : ∃ m, decide (Q.num < 0) = m := ⟨_, rfl⟩
   rw [hk5] at hN3 ⊢
   rw [hk6] at hD3 ⊢
   rw [hmq]
   have HN3 := hid hN3; have HD3 := hid hD3; have HMQ := hid hmq
   have Z := hid (T.out.b2.call C6.out)
   have t0 := Z.out.cell 0
   have t1 := Z.out.cell 1
   have t2 := Z.out.cell 2
   have t3 := Z.out.free 0
   have t4 := Z.out.free 1
   have t5 := Z.out.free 2
   simp at t0 t1 t2
   clear hv3 hN3 hD3 hk5 hk6 hmq
   go_wp2_with fail
   refine ⟨T.out.cells C6.out, ?_⟩
   refine held_one (i := 7) (by kernel_rfl) (by rfl) (by rfl) ?_
   go_wp2_with fail
   refine ⟨T.out.stored C6.out _ _ _, ?_⟩
   refine wpAnyH_done (by kernel_rfl) ?_ _
   simp only [Only]
   obtain ⟨s1, s2⟩ := set3 Z.out mq a5 a6 k5 c5 k6 c6
   have f0 := s2.cell 0
   have f1 := s2.cell 1
   have f2 := s2.cell 2
   simp at f0 f1 f2
   clear t0 t1 t2 t3 t4 t5
   go_wp2_with fail
   refine bodyPost_ret (v := .agg #[.bool mq, .slice a5 k5 c5, .slice a6 k6 c6]) (by simp [results, Tryz.results54, go_sem, f0, f1, f2]) rfl ⟨⟨_, rfl, ⟨.slice a5 k5 c5, .slice a6 k6 c6, by rw [HMQ.out], s1 _ _ _ HN3.out, s1 _ _ _ HD3.out⟩⟩, ?_⟩
   exact ((B6.out.setCell (by simp; omega) _).setCell (by simp; omega) _).setCell (by simp; omega) _
  ·have HC := hid (show Y ≤ X by omega)
   have q1 : decide (ordN X Y < 0) = false := by
    rcases Nat.lt_or_ge Y X with h | h
    ·rw [ordN_gt h]; rfl
    ·rw [show X = Y by omega, ordN_eq]; rfl
   clear hc
   go_wp2_with fail
   have hS := T.out.cells C4.out.drew
   have B0 := hid B4.out.drew
   have C0 := hid C4.out.drew
   refine held_plain [0, 1, 2, 3, 5] 3 (twoF w.heap.size m1 m2 (.slice a1 (limbs n1).length c1) (.slice a2 (limbs d1).length c2) (.slice a3 (limbs n2).length c3) (.slice a4 (limbs d2).length c4)) (by kernel_rfl) (by kernel_rfl) (by kernel_rfl) (by kernel_rfl) hS ?_
   iterate 5
    refine ⟨_, rfl, ?_⟩
    apply Exists.intro
    refine ⟨.inl ⟨by rfl, ?_⟩, ?_⟩
    ·(intro W' hW'; obtain ⟨q1, q2, q3, q4, q5, q6⟩ := hW'; go_simp; try (with_reducible rfl))
    (dsimp only [Act.put]; try simp only [List.setIfInBounds_toArray, List.set_cons_zero, List.set_cons_succ])
   clear hS
   refine held_one (i := 4) (by kernel_rfl) (by rfl) (by rfl) ?_
   go_wp2_with fail
   refine (l_Sub _ _ _ X Y (Y1.out.call (Below.refl _ _).drew) (Y2.out.call (Below.refl _ _).drew) HC.out (Nat.le_trans LX.out (by omega))).mono ?_; rintro e w5 ⟨⟨v5, rfl, hv5⟩, hb5⟩
   have B5 := hid (B0.out.trans (hb5.mono B0.out.size)); have C5 := hid (C0.out.trans (hb5.mono C0.out.size)); have V5 := hid hv5; have E5 := hid (V4.out.call (show Below w4.heap.size w4 w5 from (Below.refl _ _).drew.trans hb5))
   clear hb5 hv5
   go_wp2_with fail
   refine ⟨T.out.cells C5.out, ?_⟩
   refine held_one (i := 6) (by kernel_rfl) (by rfl) (by rfl) ?_
   go_wp2_with fail
   refine (f_Make _ _ _ _ (X - Y) E V5.out E5.out hD.out (Nat.le_trans (limbs_length_mono (Nat.sub_le X Y)) (Nat.le_trans LX.out (by omega))) LD.out).mono ?_; rintro e w6 ⟨⟨v3, rfl, hv3⟩, hb6⟩
   rw [S3.out HE.out HC.out] at hv3
   have B6 := hid (B5.out.trans (hb6.mono B5.out.size)); have C6 := hid (C5.out.trans (hb6.mono C5.out.size))
   clear hb6
   obtain ⟨N3, D3, rfl, hN3, hD3⟩ := hv3.ex
   obtain ⟨a5, c5, rfl, _⟩ := hN3.openI
   obtain ⟨a6, c6, rfl, _⟩ := hD3.openI
   obtain ⟨k5, hk5⟩ : ∃ k, (limbs Q.num.natAbs).length = k := ⟨_, rfl⟩
   obtain ⟨k6, hk6⟩ : ∃ k, (limbs Q.den).length = k := ⟨_, rfl⟩
   obtain ⟨mq, hmq⟩ : ∃ m, decide (Q.num < 0) = m := ⟨_, rfl⟩
   rw [hk5] at hN3 ⊢
   rw [hk6] at hD3 ⊢
   rw [hmq]
   have HN3 := hid hN3; have HD3 := hid hD3; have HMQ := hid hmq
   have Z := hid (T.out.b2.call C6.out)
   have t0 := Z.out.cell 0
   have t1 := Z.out.cell 1
   have t2 := Z.out.cell 2
   have t3 := Z.out.free 0
   have t4 := Z.out.free 1
   have t5 := Z.out.free 2
   simp at t0 t1 t2
   clear hv3 hN3 hD3 hk5 hk6 hmq
   go_wp2_with fail
   refine ⟨T.out.cells C6.out, ?_⟩
   refine held_one (i := 7) (by kernel_rfl) (by rfl) (by rfl) ?_
   go_wp2_with fail
   refine ⟨T.out.stored C6.out _ _ _, ?_⟩
   refine wpAnyH_done (by kernel_rfl) ?_ _
   simp only [Only]
   obtain ⟨s1, s2⟩ := set3 Z.out mq a5 a6 k5 c5 k6 c6
   have f0 := s2.cell 0
   have f1 := s2.cell 1
   have f2 := s2.cell 2
   simp at f0 f1 f2
   clear t0 t1 t2 t3 t4 t5
   go_wp2_with fail
   refine bodyPost_ret (v := .agg #[.bool mq, .slice a5 k5 c5, .slice a6 k6 c6]) (by simp [results, Tryz.results54, go_sem, f0, f1, f2]) rfl ⟨⟨_, rfl, ⟨.slice a5 k5 c5, .slice a6 k6 c6, by rw [HMQ.out], s1 _ _ _ HN3.out, s1 _ _ _ HD3.out⟩⟩, ?_⟩
   exact ((B6.out.setCell (by simp; omega) _).setCell (by simp; omega) _).setCell (by simp; omega) _
theorem f_Sub (w : World) (v u : Value) (p q : Rat) (hp : IsQ .u64 w v p) (hq : IsQ .u64 w u q)
 (h1 : (limbs p.num.natAbs).length ≤ 100000) (h2 : (limbs p.den).length ≤ 100000) (h3 : (limbs q.num.natAbs).length ≤ 100000) (h4 : (limbs q.den).length ≤ 100000) :
 Calls Tryz.prog 161 #[v, u] w fun e w' => RetQ .u64 (p - q) e w' ∧ Below w.heap.size w w' := by
 have e1 : p + -q = p - q := (Rat.sub_eq_add_neg p q).symm
 have F1 := fun V v h => hid (f_Neg V v q h)
 have F2 := fun V v u hv hu => hid (f_Add V v u p (-q) hv hu h1 h2 (by rw [Rat.neg_num, Int.natAbs_neg]; exact h3) (by rw [Rat.neg_den]; exact h4))
 rw [e1] at F2
 obtain ⟨Q, hQ⟩ : ∃ Q, p - q = Q := ⟨_, rfl⟩
 rw [hQ] at F2 ⊢
 have HP := hid hp; have HQ' := hid hq
 obtain ⟨N1, D1, rfl, hn1, hd1⟩ := hp.ex
 obtain ⟨N2, D2, rfl, hn2, hd2⟩ := hq.ex
 obtain ⟨a1, c1, rfl, _⟩ := hn1.openI
 obtain ⟨a2, c2, rfl, _⟩ := hd1.openI
 obtain ⟨a3, c3, rfl, _⟩ := hn2.openI
 obtain ⟨a4, c4, rfl, _⟩ := hd2.openI
 clear hp hq hQ e1 hn1 hd1 hn2 hd2 h1 h2 h3 h4
 obtain ⟨m1, hm1⟩ : ∃ m, decide (p.num < 0) = m := ⟨_, rfl⟩
 obtain ⟨m2, hm2⟩ : ∃ m, decide (q.num < 0) = m := ⟨_, rfl⟩
 obtain ⟨l1, hl1⟩ : ∃ m, (limbs p.num.natAbs).length = m := ⟨_, rfl⟩
 obtain ⟨l2, hl2⟩ : ∃ m, (limbs p.den).length = m := ⟨_, rfl⟩
 obtain ⟨l3, hl3⟩ : ∃ m, (limbs q.num.natAbs).length = m := ⟨_, rfl⟩
 obtain ⟨l4, hl4⟩ : ∃ m, (limbs q.den).length = m := ⟨_, rfl⟩
 rw [hm1, hl1, hl2] at HP
 rw [hm2, hl3, hl4] at HQ'
 rw [hm1, hm2, hl1, hl2, hl3, hl4]
 clear hm1 hm2 hl1 hl2 hl3 hl4
 go_enter Tryz.func161, Tryz.ntmps161
 go_wp2_with fail
 obtain ⟨W, hW⟩ : ∃ W, ((w.alloc (.cells #[.bool m1, .slice a1 l1 c1, .slice a2 l2 c2] 94)).alloc (.cells #[.bool m2, .slice a3 l3 c3, .slice a4 l4 c4] 94)).alloc (.cells #[.bool false, .slice none 0 0, .slice none 0 0] 94) = W := ⟨_, rfl⟩
 have T := hid (Three.mk' hW)
 rw [hW]
 clear hW
 have hS := T.out.cells (Below.refl _ _).drew
 have B0 := hid (T.out.below.drew)
 have C0 := hid ((Below.refl W.heap.size W).drew)
 refine held_plain [0, 1] 3 (twoF w.heap.size m1 m2 (.slice a1 l1 c1) (.slice a2 l2 c2) (.slice a3 l3 c3) (.slice a4 l4 c4)) (by kernel_rfl) (by kernel_rfl) (by kernel_rfl) (by kernel_rfl) hS ?_
 iterate 2
  refine ⟨_, rfl, ?_⟩
  apply Exists.intro
  refine ⟨.inl ⟨by rfl, ?_⟩, ?_⟩
  ·(intro W' hW'; obtain ⟨q1, q2, q3, q4, q5, q6⟩ := hW'; go_simp; try (with_reducible rfl))
  (dsimp only [Act.put]; try simp only [List.setIfInBounds_toArray, List.set_cons_zero, List.set_cons_succ])
 clear hS
 refine held_one (i := 2) (by kernel_rfl) (by rfl) (by rfl) ?_
 go_wp2_with fail
 refine (F1 _ _ (HQ'.out.call B0.out)).out.mono ?_; rintro e w1 ⟨⟨v1, rfl, hv1⟩, hb1⟩
 have B1 := hid (B0.out.trans (hb1.mono B0.out.size)); have C1 := hid (bnext C0.out hb1); have V1 := hid hv1
 clear hb1 hv1
 go_wp2_with fail
 refine ⟨T.out.cells C1.out, ?_⟩
 refine held_one (i := 3) (by kernel_rfl) (by rfl) (by rfl) ?_
 go_wp2_with fail
 refine (F2 _ _ _ (HP.out.call B1.out) V1.out).out.mono ?_; rintro e w3 ⟨⟨v3, rfl, hv3⟩, hb3⟩
 have B3 := hid (B1.out.trans (hb3.mono B1.out.size)); have C3 := hid (bnext C1.out hb3)
 clear hb3
 obtain ⟨N3, D3, rfl, hN3, hD3⟩ := hv3.ex
 obtain ⟨a5, c5, rfl, _⟩ := hN3.openI
 obtain ⟨a6, c6, rfl, _⟩ := hD3.openI
 obtain ⟨k5, hk5⟩ : ∃ k, (limbs Q.num.natAbs).length = k := ⟨_, rfl⟩
 obtain ⟨k6, hk6⟩ : ∃ k, (limbs Q.den).length = k := ⟨_, rfl⟩
 obtain ⟨mq, hmq⟩ : ∃ m, decide (Q.num < 0) = m := ⟨_, rfl⟩
 rw [hk5] at hN3 ⊢
 rw [hk6] at hD3 ⊢
 rw [hmq]
 have HN3 := hid hN3; have HD3 := hid hD3; have HMQ := hid hmq
 have Z := hid (T.out.b2.call C3.out)
 have t0 := Z.out.cell 0
 have t1 := Z.out.cell 1
 have t2 := Z.out.cell 2
 have t3 := Z.out.free 0
 have t4 := Z.out.free 1
 have t5 := Z.out.free 2
 simp at t0 t1 t2
 clear hv3 hN3 hD3 hk5 hk6 hmq
 go_wp2_with fail
 refine ⟨T.out.cells C3.out, ?_⟩
 refine held_one (i := 4) (by kernel_rfl) (by rfl) (by rfl) ?_
 go_wp2_with fail
 refine ⟨T.out.stored C3.out _ _ _, ?_⟩
 refine wpAnyH_done (by kernel_rfl) ?_ _
 simp only [Only]
 obtain ⟨s1, s2⟩ := set3 Z.out mq a5 a6 k5 c5 k6 c6
 have f0 := s2.cell 0
 have f1 := s2.cell 1
 have f2 := s2.cell 2
 simp at f0 f1 f2
 clear t0 t1 t2 t3 t4 t5
 go_wp2_with fail
 refine bodyPost_ret (v := .agg #[.bool mq, .slice a5 k5 c5, .slice a6 k6 c6]) (by simp [results, Tryz.results161, go_sem, f0, f1, f2]) rfl ⟨⟨_, rfl, ⟨.slice a5 k5 c5, .slice a6 k6 c6, by rw [HMQ.out], s1 _ _ _ HN3.out, s1 _ _ _ HD3.out⟩⟩, ?_⟩
 exact ((B3.out.setCell (by simp; omega) _).setCell (by simp; omega) _).setCell (by simp; omega) _
open Go.Shelf
open Go.Lib (decDigits nDigits)
theorem q_both (w : World) (s t : ByteArray) (F : Nat) (R : ByteArray) (x : Int) (hs : s.size ≤ 1000000) (ht : t.size ≤ 1000000) (hL : Lay w)
 (hen : ∀ args w, (callFunc F args).run Tryz.prog w = .ok (.enter F args) w)
 (hF : ∀ W v u, qE s = 0 → qE t = 0 → IsQ .u64 W v (vQ s) → IsQ .u64 W u (vQ t) → Lay W → Calls Tryz.prog F #[v, u] W fun e w' => e = .returned (.tuple #[.string R, .int .i64 x]) ∧ Below W.heap.size W w') :
 Calls Tryz.prog 137 #[.string s, .string t, .func (.func F) #[] #[]] w fun e w' => e = .returned (.tuple #[.string (tB R s t), .int .i64 (tE x s t)]) ∧ Below w.heap.size w w' := by
 have HF := hid hF
 have HL := hid hL
 have HEN := hid hen
 have HT := hid ht
 have b1 := hid ((Below.refl w.heap.size w).alloc (Nat.le_refl _) (.cells #[.string t] 22))
 obtain ⟨w1, hw1⟩ : ∃ w1, w.alloc (.cells #[.string t] 22) = w1 := ⟨_, rfl⟩
 obtain ⟨g1, hg1⟩ : ∃ g, w.heap.size = g := ⟨_, rfl⟩
 have X1 := hid (Blk.new w #[.string t] 22)
 rw [hw1] at b1
 rw [hw1, hg1] at X1
 have b2 := hid ((Below.refl w1.heap.size w1).alloc (Nat.le_refl _) (.cells #[.func (.func F) #[] #[]] 162))
 obtain ⟨w2, hw2⟩ : ∃ w2, w1.alloc (.cells #[.func (.func F) #[] #[]] 162) = w2 := ⟨_, rfl⟩
 have X2 := hid (Blk.new w1 #[.func (.func F) #[] #[]] 162)
 have X12 := hid (X1.out.call b2.out)
 have y2 := hid (bnext b1.out b2.out)
 have hg2 : w1.heap.size = g1 + 1 := by rw [← hw1, ← hg1]; simp
 rw [hw2] at b2 X12 y2
 rw [hw2, hg2] at X2
 have L2 := hid (HL.out.call y2.out)
 have W2 := hid (q_with w2 s 202 #[.pointer (some ⟨g1, 0, none⟩), .pointer (some ⟨g1 + 1, 0, none⟩)] (wB R t) (wE x t) hs L2.out (enters_of Tryz.func202 (by kernel_rfl) rfl)
  (fun W v hq hb hv hLW => by
   have hX1 := (X12.out.call hb).cell 0
   have hX2 := (X2.out.call hb).cell 0
   exact q_both1 W v t (vQ s) F g1 (g1 + 1) R x HT.out hv hLW HEN.out hX1 hX2 (fun W v u h0 h1 h2 h3 => HF.out W v u hq h0 h1 h2 h3)))
 have HW1 := hid hw1; have HW2 := hid hw2; have HG1 := hid hg1
 clear hF hL hen hs ht hw1 hw2 hg1 hg2 b1
 go_enter Tryz.func137, Tryz.ntmps137
 go_wp2_with fail
 have hw1 := HW1.out; have hw2 := HW2.out; have hg1 := HG1.out
 rw [hw1, hg1, hw2]
 refine W2.out.mono ?_; rintro e w3 ⟨rfl, hb3⟩
 have y3 := hid (bnext y2.out hb3)
 clear hb3 hw1 hw2 hg1
 go_wp2_with fail
 go_ret2
 exact ⟨rfl, by have := y3.out; exact this⟩
structure Sml (K : Nat) (q : Rat) : Prop where
 n : (limbs q.num.natAbs).length ≤ K
 d : (limbs q.den).length ≤ K
theorem sml_vQ {s : ByteArray} (h : qE s = 0) : Sml 1000 (vQ s) := by
 obtain ⟨-, e2, e3⟩ := vQ_ok h
 obtain ⟨-, -, -, l1, l2, -⟩ := valid h
 exact ⟨by rw [e2]; exact Nat.le_trans (limbs_of_digits l1) (by omega), by rw [e3]; exact Nat.le_trans (limbs_of_digits l2) (by omega)⟩
theorem Sml.up {K L : Nat} {q : Rat} (h : Sml K q) (hl : K ≤ L) : Sml L q := ⟨Nat.le_trans h.n hl, Nat.le_trans h.d hl⟩
theorem sml_neg {K : Nat} {q : Rat} (h : Sml K q) : Sml K (-q) := ⟨by rw [Rat.neg_num, Int.natAbs_neg]; exact h.n, by rw [Rat.neg_den]; exact h.d⟩
theorem sml_mk {K : Nat} {z : Int} {d : Nat} (hd : 0 < d) (h1 : (limbs z.natAbs).length ≤ K) (h2 : (limbs d).length ≤ K) : Sml K (mkRat z d) := by
 refine ⟨?_, ?_⟩
 ·rw [Rat.num_mkRat, if_neg (by omega)]
  refine Nat.le_trans (limbs_length_mono ?_) h1
  exact Int.natAbs_ediv_le_natAbs _ _
 ·rw [Rat.den_mkRat, if_neg (by omega)]
  exact Nat.le_trans (limbs_length_mono (Nat.div_le_self _ _)) h2
theorem sml_mulK {K L : Nat} {p q : Rat} (hp : Sml K p) (hq : Sml L q) : Sml (K + L) (p * q) := by
 rw [← qmk_mul]
 unfold qmk
 exact sml_mk (Nat.mul_pos p.den_pos q.den_pos) (by rw [sgn_natAbs]; exact limbs_mul hp.n hq.n) (limbs_mul hp.d hq.d)
theorem sml_addK {K L : Nat} {p q : Rat} (hp : Sml K p) (hq : Sml L q) : Sml (K + L + (K + L) + 1) (p + q) := by
 rw [q_add]
 refine sml_mk (Nat.mul_pos p.den_pos q.den_pos) ?_ (Nat.le_trans (limbs_mul hp.d hq.d) (by omega))
 refine Nat.le_trans (limbs_length_mono (sgn_abs_le _ _ _ _)) ?_
 exact Nat.le_trans (len_add (limbs_mul hp.n hq.d) (limbs_mul hq.n hp.d)) (by omega)
theorem sml_mul {p q : Rat} (hp : Sml 1000 p) (hq : Sml 1000 q) : Sml 10000 (p * q) := (sml_mulK hp hq).up (by omega)
theorem sml_add {p q : Rat} (hp : Sml 1000 p) (hq : Sml 1000 q) : Sml 10000 (p + q) := (sml_addK hp hq).up (by omega)
theorem sml_sub {p q : Rat} (hp : Sml 1000 p) (hq : Sml 1000 q) : Sml 10000 (p - q) := by rw [Rat.sub_eq_add_neg]; exact sml_add hp (sml_neg hq)
theorem t2B {f : Rat → Rat → Rat} {s t : ByteArray} : tB (outB (f (vQ s) (vQ t))) s t = op2B f s t := by
 unfold tB wB op2B
 by_cases h1 : qE s = 0 <;> by_cases h2 : qE t = 0 <;> simp [h1, h2]
theorem t2E {f : Rat → Rat → Rat} {s t : ByteArray} : tE (outE (f (vQ s) (vQ t))) s t = op2E f s t := by
 unfold tE wE op2E
 by_cases h1 : qE s = 0 <;> by_cases h2 : qE t = 0 <;> simp [h1, h2]
theorem q_Mul1 (w : World) (v u : Value) (p q : Rat) (hp : IsQ .u64 w v p) (hq : IsQ .u64 w u q) (sp : Sml 1000 p) (sq : Sml 1000 q) (hL : Lay w) :
 Calls Tryz.prog 138 #[v, u] w fun e w' => e = .returned (.tuple #[.string (outB (p * q)), .int .i64 (outE (p * q))]) ∧ Below w.heap.size w w' := by
 have F1 := fun V v u hv hu => hid (f_Mul V v u p q hv hu (Nat.le_trans sp.n (by omega)) (Nat.le_trans sp.d (by omega)) (Nat.le_trans sq.n (by omega)) (Nat.le_trans sq.d (by omega)))
 have SQ := sml_mul sp sq
 have F2 := fun V v hv hV => hid (f_Num V v (p * q) hv (Nat.le_trans SQ.n (by omega)) (Nat.le_trans SQ.d (by omega)) hV)
 obtain ⟨Q, hQ⟩ : ∃ Q, p * q = Q := ⟨_, rfl⟩
 rw [hQ] at F1 F2 ⊢
 have HL := hid hL
 obtain ⟨N1, D1, rfl, hn1, hd1⟩ := hp.ex
 obtain ⟨N2, D2, rfl, hn2, hd2⟩ := hq.ex
 obtain ⟨a1, c1, rfl, _⟩ := hn1.openI
 obtain ⟨a2, c2, rfl, _⟩ := hd1.openI
 obtain ⟨a3, c3, rfl, _⟩ := hn2.openI
 obtain ⟨a4, c4, rfl, _⟩ := hd2.openI
 obtain ⟨k1, hk1⟩ : ∃ k, (limbs p.num.natAbs).length = k := ⟨_, rfl⟩
 obtain ⟨k2, hk2⟩ : ∃ k, (limbs p.den).length = k := ⟨_, rfl⟩
 obtain ⟨k3, hk3⟩ : ∃ k, (limbs q.num.natAbs).length = k := ⟨_, rfl⟩
 obtain ⟨k4, hk4⟩ : ∃ k, (limbs q.den).length = k := ⟨_, rfl⟩
 obtain ⟨m1, hm1⟩ : ∃ m, decide (p.num < 0) = m := ⟨_, rfl⟩
 obtain ⟨m2, hm2⟩ : ∃ m, decide (q.num < 0) = m := ⟨_, rfl⟩
 rw [hk1, hk2, hm1] at hp ⊢
 rw [hk3, hk4, hm2] at hq ⊢
 have X1 := hid (Blk.new w #[.bool m1, .slice a1 k1 c1, .slice a2 k2 c2] 94)
 have b1 := hid ((Below.refl w.heap.size w).alloc (Nat.le_refl _) (.cells #[.bool m1, .slice a1 k1 c1, .slice a2 k2 c2] 94))
 have Y1 := hid (X1.out.alloc (.cells #[.bool m2, .slice a3 k3 c3, .slice a4 k4 c4] 94))
 have X2 := hid (Blk.new (w.alloc (.cells #[.bool m1, .slice a1 k1 c1, .slice a2 k2 c2] 94)) #[.bool m2, .slice a3 k3 c3, .slice a4 k4 c4] 94)
 have b2 := hid (b1.out.alloc b1.out.size (.cells #[.bool m2, .slice a3 k3 c3, .slice a4 k4 c4] 94))
 have P2 := hid (hp.call b2.out)
 have Q2 := hid (hq.call b2.out)
 have r0 := Y1.out.cell 0
 have r1 := Y1.out.cell 1
 have r2 := Y1.out.cell 2
 have s0 := X2.out.cell 0
 have s1 := X2.out.cell 1
 have s2 := X2.out.cell 2
 simp at r0 r1 r2 s0 s1 s2
 clear hk1 hk2 hk3 hk4 hm1 hm2 hn1 hn2 hd1 hd2 hp hq hL sp sq SQ hQ
 go_enter Tryz.func138, Tryz.ntmps138
 go_wp2_with fail
 refine (F1 _ _ _ P2.out Q2.out).out.mono ?_; rintro e w3 ⟨⟨v3, rfl, hv3⟩, hb3⟩
 have y3 := hid (bnext b2.out hb3)
 obtain ⟨N3, D3, rfl, hn3, hd3⟩ := hv3.ex
 obtain ⟨a5, c5, rfl, _⟩ := hn3.openI
 obtain ⟨a6, c6, rfl, _⟩ := hd3.openI
 obtain ⟨k5, hk5⟩ : ∃ k, (limbs Q.num.natAbs).length = k := ⟨_, rfl⟩
 obtain ⟨k6, hk6⟩ : ∃ k, (limbs Q.den).length = k := ⟨_, rfl⟩
 obtain ⟨m3, hm3⟩ : ∃ m, decide (Q.num < 0) = m := ⟨_, rfl⟩
 rw [hk5, hk6, hm3] at hv3 ⊢
 have V3 := hid hv3
 clear hb3 hv3 hn3 hd3 hk5 hk6 hm3
 go_wp2_with fail
 refine (F2 _ _ V3.out (HL.out.call y3.out)).out.mono ?_; rintro e w4 ⟨rfl, hb4⟩
 have y4 := hid (bnext y3.out hb4); clear hb4
 go_wp2_with fail
 go_ret2
 exact ⟨rfl, y4.out⟩
theorem q_Mul (w : World) (s t : ByteArray) (hs : s.size ≤ 1000000) (ht : t.size ≤ 1000000) (hL : Lay w) :
 Calls Tryz.prog 64 #[.string s, .string t] w fun e w' => e = .returned (.tuple #[.string (op2B (· * ·) s t), .int .i64 (op2E (· * ·) s t)]) ∧ Below w.heap.size w w' := by
 have H := hid (q_both w s t 138 (outB (vQ s * vQ t)) (outE (vQ s * vQ t)) hs ht hL (enters_of Tryz.func138 (by kernel_rfl) rfl)
  (fun W v u h1 h2 hv hu hLW => q_Mul1 W v u _ _ hv hu (sml_vQ h1) (sml_vQ h2) hLW))
 rw [t2B, t2E (f := (· * ·))] at H
 obtain ⟨B, hB⟩ : ∃ B, op2B (· * ·) s t = B := ⟨_, rfl⟩
 obtain ⟨E, hE⟩ : ∃ E, op2E (· * ·) s t = E := ⟨_, rfl⟩
 rw [hB, hE] at H ⊢
 clear hB hE hs ht hL
 go_enter Tryz.func64, Tryz.ntmps64
 go_wp2_with fail
 refine H.out.mono ?_; rintro e w1 ⟨rfl, hb1⟩
 have y1 := hid hb1; clear hb1
 go_wp2_with fail
 go_ret2
 exact ⟨rfl, y1.out⟩
theorem q_Add1 (w : World) (v u : Value) (p q : Rat) (hp : IsQ .u64 w v p) (hq : IsQ .u64 w u q) (sp : Sml 1000 p) (sq : Sml 1000 q) (hL : Lay w) :
 Calls Tryz.prog 157 #[v, u] w fun e w' => e = .returned (.tuple #[.string (outB (p + q)), .int .i64 (outE (p + q))]) ∧ Below w.heap.size w w' := by
 have F1 := fun V v u hv hu => hid (f_Add V v u p q hv hu (Nat.le_trans sp.n (by omega)) (Nat.le_trans sp.d (by omega)) (Nat.le_trans sq.n (by omega)) (Nat.le_trans sq.d (by omega)))
 have SQ := sml_add sp sq
 have F2 := fun V v hv hV => hid (f_Num V v (p + q) hv (Nat.le_trans SQ.n (by omega)) (Nat.le_trans SQ.d (by omega)) hV)
 obtain ⟨Q, hQ⟩ : ∃ Q, p + q = Q := ⟨_, rfl⟩
 rw [hQ] at F1 F2 ⊢
 have HL := hid hL
 obtain ⟨N1, D1, rfl, hn1, hd1⟩ := hp.ex
 obtain ⟨N2, D2, rfl, hn2, hd2⟩ := hq.ex
 obtain ⟨a1, c1, rfl, _⟩ := hn1.openI
 obtain ⟨a2, c2, rfl, _⟩ := hd1.openI
 obtain ⟨a3, c3, rfl, _⟩ := hn2.openI
 obtain ⟨a4, c4, rfl, _⟩ := hd2.openI
 obtain ⟨k1, hk1⟩ : ∃ k, (limbs p.num.natAbs).length = k := ⟨_, rfl⟩
 obtain ⟨k2, hk2⟩ : ∃ k, (limbs p.den).length = k := ⟨_, rfl⟩
 obtain ⟨k3, hk3⟩ : ∃ k, (limbs q.num.natAbs).length = k := ⟨_, rfl⟩
 obtain ⟨k4, hk4⟩ : ∃ k, (limbs q.den).length = k := ⟨_, rfl⟩
 obtain ⟨m1, hm1⟩ : ∃ m, decide (p.num < 0) = m := ⟨_, rfl⟩
 obtain ⟨m2, hm2⟩ : ∃ m, decide (q.num < 0) = m := ⟨_, rfl⟩
 rw [hk1, hk2, hm1] at hp ⊢
 rw [hk3, hk4, hm2] at hq ⊢
 have X1 := hid (Blk.new w #[.bool m1, .slice a1 k1 c1, .slice a2 k2 c2] 94)
 have b1 := hid ((Below.refl w.heap.size w).alloc (Nat.le_refl _) (.cells #[.bool m1, .slice a1 k1 c1, .slice a2 k2 c2] 94))
 have Y1 := hid (X1.out.alloc (.cells #[.bool m2, .slice a3 k3 c3, .slice a4 k4 c4] 94))
 have X2 := hid (Blk.new (w.alloc (.cells #[.bool m1, .slice a1 k1 c1, .slice a2 k2 c2] 94)) #[.bool m2, .slice a3 k3 c3, .slice a4 k4 c4] 94)
 have b2 := hid (b1.out.alloc b1.out.size (.cells #[.bool m2, .slice a3 k3 c3, .slice a4 k4 c4] 94))
 have P2 := hid (hp.call b2.out)
 have Q2 := hid (hq.call b2.out)
 have r0 := Y1.out.cell 0
 have r1 := Y1.out.cell 1
 have r2 := Y1.out.cell 2
 have s0 := X2.out.cell 0
 have s1 := X2.out.cell 1
 have s2 := X2.out.cell 2
 simp at r0 r1 r2 s0 s1 s2
 clear hk1 hk2 hk3 hk4 hm1 hm2 hn1 hn2 hd1 hd2 hp hq hL sp sq SQ hQ
 go_enter Tryz.func157, Tryz.ntmps157
 go_wp2_with fail
 refine (F1 _ _ _ P2.out Q2.out).out.mono ?_; rintro e w3 ⟨⟨v3, rfl, hv3⟩, hb3⟩
 have y3 := hid (bnext b2.out hb3)
 obtain ⟨N3, D3, rfl, hn3, hd3⟩ := hv3.ex
 obtain ⟨a5, c5, rfl, _⟩ := hn3.openI
 obtain ⟨a6, c6, rfl, _⟩ := hd3.openI
 obtain ⟨k5, hk5⟩ : ∃ k, (limbs Q.num.natAbs).length = k := ⟨_, rfl⟩
 obtain ⟨k6, hk6⟩ : ∃ k, (limbs Q.den).length = k := ⟨_, rfl⟩
 obtain ⟨m3, hm3⟩ : ∃ m, decide (Q.num < 0) = m := ⟨_, rfl⟩
 rw [hk5, hk6, hm3] at hv3 ⊢
 have V3 := hid hv3
 clear hb3 hv3 hn3 hd3 hk5 hk6 hm3
 go_wp2_with fail
 refine (F2 _ _ V3.out (HL.out.call y3.out)).out.mono ?_; rintro e w4 ⟨rfl, hb4⟩
 have y4 := hid (bnext y3.out hb4); clear hb4
 go_wp2_with fail
 go_ret2
 exact ⟨rfl, y4.out⟩
theorem q_Add (w : World) (s t : ByteArray) (hs : s.size ≤ 1000000) (ht : t.size ≤ 1000000) (hL : Lay w) :
 Calls Tryz.prog 95 #[.string s, .string t] w fun e w' => e = .returned (.tuple #[.string (op2B (· + ·) s t), .int .i64 (op2E (· + ·) s t)]) ∧ Below w.heap.size w w' := by
 have H := hid (q_both w s t 157 (outB (vQ s + vQ t)) (outE (vQ s + vQ t)) hs ht hL (enters_of Tryz.func157 (by kernel_rfl) rfl)
  (fun W v u h1 h2 hv hu hLW => q_Add1 W v u _ _ hv hu (sml_vQ h1) (sml_vQ h2) hLW))
 rw [t2B, t2E (f := (· + ·))] at H
 obtain ⟨B, hB⟩ : ∃ B, op2B (· + ·) s t = B := ⟨_, rfl⟩
 obtain ⟨E, hE⟩ : ∃ E, op2E (· + ·) s t = E := ⟨_, rfl⟩
 rw [hB, hE] at H ⊢
 clear hB hE hs ht hL
 go_enter Tryz.func95, Tryz.ntmps95
 go_wp2_with fail
 refine H.out.mono ?_; rintro e w1 ⟨rfl, hb1⟩
 have y1 := hid hb1; clear hb1
 go_wp2_with fail
 go_ret2
 exact ⟨rfl, y1.out⟩
theorem q_Sub1 (w : World) (v u : Value) (p q : Rat) (hp : IsQ .u64 w v p) (hq : IsQ .u64 w u q) (sp : Sml 1000 p) (sq : Sml 1000 q) (hL : Lay w) :
 Calls Tryz.prog 160 #[v, u] w fun e w' => e = .returned (.tuple #[.string (outB (p - q)), .int .i64 (outE (p - q))]) ∧ Below w.heap.size w w' := by
 have F1 := fun V v u hv hu => hid (f_Sub V v u p q hv hu (Nat.le_trans sp.n (by omega)) (Nat.le_trans sp.d (by omega)) (Nat.le_trans sq.n (by omega)) (Nat.le_trans sq.d (by omega)))
 have SQ := sml_sub sp sq
 have F2 := fun V v hv hV => hid (f_Num V v (p - q) hv (Nat.le_trans SQ.n (by omega)) (Nat.le_trans SQ.d (by omega)) hV)
 obtain ⟨Q, hQ⟩ : ∃ Q, p - q = Q := ⟨_, rfl⟩
 rw [hQ] at F1 F2 ⊢
 have HL := hid hL
 obtain ⟨N1, D1, rfl, hn1, hd1⟩ := hp.ex
 obtain ⟨N2, D2, rfl, hn2, hd2⟩ := hq.ex
 obtain ⟨a1, c1, rfl, _⟩ := hn1.openI
 obtain ⟨a2, c2, rfl, _⟩ := hd1.openI
 obtain ⟨a3, c3, rfl, _⟩ := hn2.openI
 obtain ⟨a4, c4, rfl, _⟩ := hd2.openI
 obtain ⟨k1, hk1⟩ : ∃ k, (limbs p.num.natAbs).length = k := ⟨_, rfl⟩
 obtain ⟨k2, hk2⟩ : ∃ k, (limbs p.den).length = k := ⟨_, rfl⟩
 obtain ⟨k3, hk3⟩ : ∃ k, (limbs q.num.natAbs).length = k := ⟨_, rfl⟩
 obtain ⟨k4, hk4⟩ : ∃ k, (limbs q.den).length = k := ⟨_, rfl⟩
 obtain ⟨m1, hm1⟩ : ∃ m, decide (p.num < 0) = m := ⟨_, rfl⟩
 obtain ⟨m2, hm2⟩ : ∃ m, decide (q.num < 0) = m := ⟨_, rfl⟩
 rw [hk1, hk2, hm1] at hp ⊢
 rw [hk3, hk4, hm2] at hq ⊢
 have X1 := hid (Blk.new w #[.bool m1, .slice a1 k1 c1, .slice a2 k2 c2] 94)
 have b1 := hid ((Below.refl w.heap.size w).alloc (Nat.le_refl _) (.cells #[.bool m1, .slice a1 k1 c1, .slice a2 k2 c2] 94))
 have Y1 := hid (X1.out.alloc (.cells #[.bool m2, .slice a3 k3 c3, .slice a4 k4 c4] 94))
 have X2 := hid (Blk.new (w.alloc (.cells #[.bool m1, .slice a1 k1 c1, .slice a2 k2 c2] 94)) #[.bool m2, .slice a3 k3 c3, .slice a4 k4 c4] 94)
 have b2 := hid (b1.out.alloc b1.out.size (.cells #[.bool m2, .slice a3 k3 c3, .slice a4 k4 c4] 94))
 have P2 := hid (hp.call b2.out)
 have Q2 := hid (hq.call b2.out)
 have r0 := Y1.out.cell 0
 have r1 := Y1.out.cell 1
 have r2 := Y1.out.cell 2
 have s0 := X2.out.cell 0
 have s1 := X2.out.cell 1
 have s2 := X2.out.cell 2
 simp at r0 r1 r2 s0 s1 s2
 clear hk1 hk2 hk3 hk4 hm1 hm2 hn1 hn2 hd1 hd2 hp hq hL sp sq SQ hQ
 go_enter Tryz.func160, Tryz.ntmps160
 go_wp2_with fail
 refine (F1 _ _ _ P2.out Q2.out).out.mono ?_; rintro e w3 ⟨⟨v3, rfl, hv3⟩, hb3⟩
 have y3 := hid (bnext b2.out hb3)
 obtain ⟨N3, D3, rfl, hn3, hd3⟩ := hv3.ex
 obtain ⟨a5, c5, rfl, _⟩ := hn3.openI
 obtain ⟨a6, c6, rfl, _⟩ := hd3.openI
 obtain ⟨k5, hk5⟩ : ∃ k, (limbs Q.num.natAbs).length = k := ⟨_, rfl⟩
 obtain ⟨k6, hk6⟩ : ∃ k, (limbs Q.den).length = k := ⟨_, rfl⟩
 obtain ⟨m3, hm3⟩ : ∃ m, decide (Q.num < 0) = m := ⟨_, rfl⟩
 rw [hk5, hk6, hm3] at hv3 ⊢
 have V3 := hid hv3
 clear hb3 hv3 hn3 hd3 hk5 hk6 hm3
 go_wp2_with fail
 refine (F2 _ _ V3.out (HL.out.call y3.out)).out.mono ?_; rintro e w4 ⟨rfl, hb4⟩
 have y4 := hid (bnext y3.out hb4); clear hb4
 go_wp2_with fail
 go_ret2
 exact ⟨rfl, y4.out⟩
theorem q_Sub (w : World) (s t : ByteArray) (hs : s.size ≤ 1000000) (ht : t.size ≤ 1000000) (hL : Lay w) :
 Calls Tryz.prog 97 #[.string s, .string t] w fun e w' => e = .returned (.tuple #[.string (op2B (· - ·) s t), .int .i64 (op2E (· - ·) s t)]) ∧ Below w.heap.size w w' := by
 have H := hid (q_both w s t 160 (outB (vQ s - vQ t)) (outE (vQ s - vQ t)) hs ht hL (enters_of Tryz.func160 (by kernel_rfl) rfl)
  (fun W v u h1 h2 hv hu hLW => q_Sub1 W v u _ _ hv hu (sml_vQ h1) (sml_vQ h2) hLW))
 rw [t2B, t2E (f := (· - ·))] at H
 obtain ⟨B, hB⟩ : ∃ B, op2B (· - ·) s t = B := ⟨_, rfl⟩
 obtain ⟨E, hE⟩ : ∃ E, op2E (· - ·) s t = E := ⟨_, rfl⟩
 rw [hB, hE] at H ⊢
 clear hB hE hs ht hL
 go_enter Tryz.func97, Tryz.ntmps97
 go_wp2_with fail
 refine H.out.mono ?_; rintro e w1 ⟨rfl, hb1⟩
 have y1 := hid hb1; clear hb1
 go_wp2_with fail
 go_ret2
 exact ⟨rfl, y1.out⟩
end Go.Proofs.YtlmnpocifldpmaaGreatDoor
namespace Go.Proofs.YtlmnpocifldpmaaGreatDoor
open Go.RowKit
def p3 (N D n i k s : Nat) (v : Int) : Nat := if (k : Int) - (i : Int) = v then sumN (fun s' => edn N D k s' * cw (n - s') (oneP N D i)) s else 0
def q3 (N D n i k : Nat) (v : Int) : Nat := sumN (fun k' => p3 N D n i k' (n + 1) v) k
def t3 (N D n i : Nat) (v : Int) : Nat := sumN (fun i' => q3 N D n i' (n + 1) v) i
def c3 (N D n i k s : Nat) (v : Int) : Nat := t3 N D n i v + q3 N D n i k v + p3 N D n i k s v
open Go.Lib (decDigits nDigits)
section
variable {N D : Nat} (h : N < D)
include h
def o3 (N D n i j : Nat) : Nat := if n ≤ j ∧ j < n + i then gV N D false n ((j : Int) - n) else 0
omit h in
end
theorem fx_size (f : Rat → Rat → Rat) (s t : ByteArray) : (op2B f s t).size ≤ 10000 := by
 unfold op2B
 split
 ·exact outB_size _
 ·exact Nat.zero_le _
end Go.Proofs.YtlmnpocifldpmaaGreatDoor
namespace Go.Proofs.YtlmnpocifldpmaaGreatDoor
open Go.RowKit
open Go.Shelf
theorem own_setK {W : World} {base : Nat} {e : TypeId} {k g n cap : Nat} {xs : List Value} (h : W.ownsRow base e k (.slice (some ⟨g, 0, none⟩) n cap) n xs) (i : Nat) (x : Value) : (W.setCell ⟨g, i, none⟩ x).ownsRow base e k (.slice (some ⟨g, 0, none⟩) n cap) n (xs.set i x) := by
 rcases h.2 with ⟨e1, _⟩ | ⟨g', cap', cur, e1, hb, hg, h1, h2, h3, h4⟩
 ·simp at e1
 ·simp at e1
  obtain ⟨rfl, rfl⟩ := e1
  refine ⟨by rw [List.length_set]; exact h.1, .inr ⟨g, cap, cur.setIfInBounds i x, rfl, hb, Blk.set hg i x, h1, h2, by simpa using h3, ?_⟩⟩
  rw [Array.toList_setIfInBounds, List.take_set, h4]
theorem own_slotK {W : World} {base : Nat} {e : TypeId} {k g n cap : Nat} {xs : List Value} (h : W.ownsRow base e k (.slice (some ⟨g, 0, none⟩) n cap) n xs) : base ≤ g ∧ g < W.heap.size ∧ (∀ i, W.frozen? ⟨g, i, none⟩ = false) ∧ (∀ (i : Nat) (x : Value), xs[i]? = some x → W.cell? ⟨g, i, none⟩ = some x) ∧ cap ≤ 9223372036854775807 ∧ n ≤ cap := by
 have hh := h
 rcases h.2 with ⟨e1, _⟩ | ⟨g', cap', cur, e1, hb, hg, h1, h2, h3, h4⟩
 ·simp at e1
 ·simp at e1
  obtain ⟨rfl, rfl⟩ := e1
  refine ⟨hb, (Array.getElem?_eq_some_iff.1 hg).1, fun i => Blk.free hg i, fun i x hx => ?_, by unfold maxLen at h2; omega, h1⟩
  have := hh.cells rfl i x hx
  rw [Addr.add_lit, Nat.zero_add] at this
  exact this
theorem own_cutK {W : World} {base : Nat} {e : TypeId} {k g n m cap : Nat} {xs : List Value} (h : W.ownsRow base e k (.slice (some ⟨g, 0, none⟩) n cap) n xs) (hm : m ≤ n) : W.ownsRow base e k (.slice (some ⟨g, 0, none⟩) m cap) m (xs.take (m * k)) := by
 have hl := h.1
 rcases h.2 with ⟨e1, _⟩ | ⟨g', cap', cur, e1, hb, hg, h1, h2, h3, h4⟩
 ·simp at e1
 ·simp at e1
  obtain ⟨rfl, rfl⟩ := e1
  have hk : m * k ≤ n * k := Nat.mul_le_mul_right k hm
  refine ⟨by rw [List.length_take, hl]; omega, .inr ⟨g, cap, cur, rfl, hb, hg, by omega, h2, h3, ?_⟩⟩
  rw [← h4, List.take_take, Nat.min_eq_left hk]
theorem own_setCells {base : Nat} {e : TypeId} {k g n cap : Nat} : ∀ (vs : List Value) (o : Nat) {W : World} {xs : List Value}, W.ownsRow base e k (.slice (some ⟨g, 0, none⟩) n cap) n xs → ∃ ys, (W.setCells g o vs).ownsRow base e k (.slice (some ⟨g, 0, none⟩) n cap) n ys ∧ ys.take o = xs.take o
 | [], o, W, xs, h => ⟨xs, h, rfl⟩
 | v :: r, o, W, xs, h => by
  obtain ⟨ys, h1, h2⟩ := own_setCells r (o + 1) (own_setK h o v)
  refine ⟨ys, h1, ?_⟩
  have h3 := congrArg (List.take o) h2
  rw [List.take_take, List.take_take, Nat.min_eq_left (by omega)] at h3
  rw [h3, List.take_set, List.set_eq_of_length_le (by rw [List.length_take]; omega)]
theorem below_setCells {base g : Nat} (hb : base ≤ g) : ∀ (vs : List Value) (o : Nat) {w W : World}, Below base w W → Below base w (W.setCells g o vs)
 | [], _, _, _, h => h
 | v :: r, o, w, W, h => below_setCells hb r (o + 1) (h.setCell hb v)
theorem run_clear2 (w : World) (t e ty : TypeId) (z : Value) (x y : Value) (ht : Tryz.prog.underlying t = some (.slice e)) (hv : ∀ w, (zeroValue e).run Tryz.prog w = .ok z w) (hz : z.cells = #[x, y]) (h1 : x.oneCell' = true) (h2 : y.oneCell' = true) (b o n c : Nat) (hn : 0 < n)
 (hc : ∀ j, j < n * 2 → (w.cell? ⟨b, o + j, none⟩).isSome = true) (hf : ∀ j, j < n * 2 → w.frozen? ⟨b, o + j, none⟩ = false) :
 ∃ vs, (Builtin.clear_ #[t] ty #[.slice (some ⟨b, o, none⟩) n c]).run Tryz.prog w = .ok (.tuple #[]) (w.setCells b o vs) := by
 obtain ⟨vs, hvs⟩ : ∃ vs, (Builtin.zeroCells z.cells n).toList = vs := ⟨_, rfl⟩
 have hlen : vs.length = n * 2 := by rw [← hvs, hz]; simp [Builtin.zeroCells]
 have hone : ∀ v ∈ vs, v.oneCell' = true := by
  intro v hv'
  rw [← hvs, hz] at hv'
  simp [Builtin.zeroCells] at hv'
  obtain ⟨i, hi, rfl⟩ := hv'
  rcases Nat.mod_two_eq_zero_or_one i with h | h <;> simp [h, h1, h2]
 have hst := run_storeCells_cells (P := Tryz.prog) b o vs 0 w (by rw [hlen]; simpa using hc) (by rw [hlen]; simpa using hf) hone
 simp only [Nat.add_zero] at hst
 refine ⟨vs, ?_⟩
 obtain ⟨m, rfl⟩ : ∃ m, n = m + 1 := ⟨n - 1, by omega⟩
 simp [Builtin.clear_, run_underlying ht, hv, hvs, hst]
theorem zero_mass (w : World) : (zeroValue 39).run Tryz.prog w = .ok (.agg #[.string ⟨#[]⟩, .string ⟨#[]⟩]) w := by kernel_rfl
def ixM (p : ByteArray × ByteArray → Bool) (l : List (ByteArray × ByteArray)) : Int := if l.any p = true then (l.findIdx p : Nat) else -1
theorem s_IndexFuncM (w : World) (v : Value) (l : List (ByteArray × ByteArray)) (F : Nat) (p : ByteArray × ByteArray → Bool) (hv : MRow w v l) (hen : ∀ args w, (callFunc F args).run Tryz.prog w = .ok (.enter F args) w)
 (hF : ∀ W (x : ByteArray × ByteArray), Calls Tryz.prog F #[.agg #[.string x.1, .string x.2]] W fun e w' => e = .returned (.bool (p x)) ∧ Below W.heap.size W w') :
 Calls Tryz.prog 99 #[v, .func (.func F) #[] #[]] w fun e w' => e = .returned (.int .i64 (ixM p l)) ∧ Below w.heap.size w w' := by
 obtain ⟨a, c, rfl, q1, q2, q3⟩ := hv.ex
 obtain ⟨n, hn⟩ : ∃ n, l.length = n := ⟨_, rfl⟩
 rw [hn] at q1 ⊢
 have HN := hid hn; have Q3 := hid q3; have HF := hid hF
 clear hv q3 hn hF
 go_enter Tryz.func99, Tryz.ntmps99
 go_wp2_with fail
 go_loopw [8] (fun ii wr => ∃ i : Nat, ii = .int .i64 i ∧ i ≤ n ∧ Hid (∀ j x, j < i → l[j]? = some x → p x = false) ∧ Hid (Below w.heap.size w wr)) (fun ii wr => n - (intOf ii).toNat)
 case atStart => exact ⟨0, rfl, Nat.zero_le _, fun j x hj => absurd hj (by omega), Below.refl _ _⟩
 case round =>
  obtain ⟨i, rfl, hi, hI, hB⟩ := hrel
  by_cases hlt : i < n
  ·obtain ⟨x, hx⟩ : ∃ x, l[i]? = some x := ⟨_, List.getElem?_eq_getElem (by rw [HN.out]; exact hlt)⟩
   obtain ⟨g, o, rfl, hg, m1, m2⟩ := Q3.out i x hx
   rw [Nat.mul_comm 2] at m1 m2
   have r1 := (hB.out.cell (p := ⟨g, o + i * 2, none⟩) hg).trans m1
   have r2 := (hB.out.cell (p := ⟨g, o + i * 2 + 1, none⟩) hg).trans m2
   have HX := hid hx
   have b1 : (0 : Int) ≤ (i : Int) := by omega
   have b2 : (i : Int) < (n : Int) := by omega
   have wi : IntKind.i64.wrap ((i : Int) + 1) = ((i + 1 : Nat) : Int) := by rw [IntWalk.i64_in _ ⟨by omega, by omega⟩]; omega
   obtain ⟨z, hz⟩ : ∃ z, p x = z := ⟨_, rfl⟩
   have C := fun W => hid (hz ▸ HF.out W x)
   have HZ := hid hz
   clear hx hz m1 m2 hg
   go_wp2_with fail
   refine (C _).out.mono ?_; rintro e w1 ⟨rfl, hb1⟩
   have y1 := hid (bnext hB.out hb1)
   clear hb1
   cases z
   ·go_wp2_with fail
    go_roundw
    case rel => exact ⟨i + 1, by go_num, by omega, fun j y hj hy => by
     rcases Nat.lt_or_ge j i with h | h
     ·exact hI.out j y h hy
     ·obtain rfl : j = i := by omega
      rw [HX.out] at hy; cases hy; exact HZ.out, y1⟩
    case measure => simp [intOf] <;> omega
   ·have hA : l.any p = true := List.any_eq_true.2 ⟨x, List.mem_of_getElem? HX.out, HZ.out⟩
    have hfi : l.findIdx p = i := by
     have hil : i < l.length := by rw [HN.out]; exact hlt
     rw [List.findIdx_eq hil]
     refine ⟨?_, fun j hj => ?_⟩
     ·have := HX.out; rw [List.getElem?_eq_getElem hil] at this; rw [Option.some.inj this]; exact HZ.out
     ·exact hI.out j _ hj (List.getElem?_eq_getElem (Nat.lt_trans hj hil))
    have HE := hid (show ixM p l = (i : Int) from by rw [ixM, if_pos hA, hfi])
    clear hA hfi
    go_wp2_with fail
    go_ret
    exact ⟨by rw [HE.out]; rfl, y1.out⟩
  ·obtain rfl : i = n := by omega
   have hA : ¬ l.any p = true := fun h => by
    obtain ⟨x, hx, hp⟩ := List.any_eq_true.1 h
    obtain ⟨j, hj⟩ := List.getElem?_of_mem hx
    have := hI.out j x (by rw [← HN.out]; exact (List.getElem?_eq_some_iff.1 hj).1) hj
    rw [this] at hp; cases hp
   have HE := hid (show ixM p l = -1 from by rw [ixM, if_neg hA])
   have q0 : decide ((i : Int) < (i : Int)) = false := by simp
   clear hA hlt
   go_wp2_with fail
   go_ret
   exact ⟨by rw [HE.out]; rfl, hB.out⟩
structure DelI (del : ByteArray × ByteArray → Bool) (L D : List (ByteArray × ByteArray)) (i j : Nat) : Prop where
 len : D.length = L.length
 lt : i < j
 le : j ≤ L.length
 front : D.take i = (L.take j).filter fun x => !del x
 back : D.drop j = L.drop j
theorem DelI.start {del : ByteArray × ByteArray → Bool} {L : List (ByteArray × ByteArray)} (h : L.any del = true) : DelI del L L (L.findIdx del) (L.findIdx del + 1) := by
 have hk : L.findIdx del < L.length := List.findIdx_lt_length.2 (List.any_eq_true.1 h)
 have hd : del L[L.findIdx del] = true := List.findIdx_getElem
 refine ⟨rfl, Nat.lt_succ_self _, hk, ?_, rfl⟩
 rw [List.take_add_one, List.getElem?_eq_getElem hk, List.filter_append]
 have e1 : List.filter (fun x => !del x) (some L[L.findIdx del]).toList = [] := by simp [hd]
 rw [e1, List.append_nil]
 symm
 rw [List.filter_eq_self]
 intro x hx
 obtain ⟨j, hj, rfl⟩ := List.getElem_of_mem hx
 rw [List.length_take] at hj
 rw [List.getElem_take]
 have := List.not_of_lt_findIdx (p := del) (xs := L) (i := j) (by omega)
 simpa using this
theorem DelI.at_ {del : ByteArray × ByteArray → Bool} {L D : List (ByteArray × ByteArray)} {i j : Nat} (h : DelI del L D i j) {x : ByteArray × ByteArray} (hx : L[j]? = some x) : D[j]? = some x := by
 have := congrArg (fun l => l[0]?) h.back
 simp only [List.getElem?_drop, Nat.add_zero] at this
 rw [this, hx]
theorem DelI.keep {del : ByteArray × ByteArray → Bool} {L D : List (ByteArray × ByteArray)} {i j : Nat} (h : DelI del L D i j) {x : ByteArray × ByteArray} (hx : L[j]? = some x) (hd : del x = false) : DelI del L (D.set i x) (i + 1) (j + 1) := by
 have hj := (List.getElem?_eq_some_iff.1 hx).1
 have hlt := h.lt
 refine ⟨by rw [List.length_set]; exact h.len, by omega, hj, ?_, ?_⟩
 ·have e1 : L.take (j + 1) = L.take j ++ [x] := by rw [List.take_add_one, hx]; rfl
  have e2 : (D.set i x).take (i + 1) = D.take i ++ [x] := by
   rw [List.take_add_one, List.getElem?_set_self (by rw [h.len]; omega), List.take_set, List.set_eq_of_length_le (by rw [List.length_take]; omega)]; rfl
  rw [e1, e2, List.filter_append, ← h.front]
  simp [hd]
 ·rw [List.drop_set_of_lt (by omega), ← List.drop_drop, h.back, List.drop_drop]
theorem DelI.skip {del : ByteArray × ByteArray → Bool} {L D : List (ByteArray × ByteArray)} {i j : Nat} (h : DelI del L D i j) {x : ByteArray × ByteArray} (hx : L[j]? = some x) (hd : del x = true) : DelI del L D i (j + 1) := by
 have hj := (List.getElem?_eq_some_iff.1 hx).1
 have hlt := h.lt
 refine ⟨h.len, by omega, hj, ?_, ?_⟩
 ·rw [List.take_add_one, hx, List.filter_append, ← h.front]
  simp [hd]
 ·rw [← List.drop_drop, h.back, List.drop_drop]
theorem massC_set {D : List (ByteArray × ByteArray)} {i : Nat} (x : ByteArray × ByteArray) (hi : i < D.length) : ((massC D).set (i * 2) (.string x.1)).set (i * 2 + 1) (.string x.2) = massC (D.set i x) := by
 apply List.ext_getElem?
 intro k
 rw [massC_at, List.getElem?_set, List.getElem?_set]
 simp only [List.length_set, massC_length]
 by_cases h1 : i * 2 + 1 = k
 ·subst h1
  rw [if_pos rfl, if_pos (by omega), show (i * 2 + 1) / 2 = i by omega, List.getElem?_set_self hi, Option.map_some, if_neg (by omega)]
 ·rw [if_neg h1]
  by_cases h2 : i * 2 = k
  ·subst h2
   rw [if_pos rfl, if_pos (by omega), show i * 2 / 2 = i by omega, List.getElem?_set_self hi, Option.map_some, if_pos (by omega)]
  ·rw [if_neg h2, massC_at, List.getElem?_set_ne (by omega)]
theorem massC_take (D : List (ByteArray × ByteArray)) (i : Nat) : (massC D).take (i * 2) = massC (D.take i) := by
 apply List.ext_getElem?
 intro k
 rw [massC_at]
 by_cases h : k < i * 2
 ·rw [List.getElem?_take_of_lt h, massC_at, List.getElem?_take_of_lt (by omega)]
 ·rw [List.getElem?_take_eq_none (by omega), List.getElem?_take_eq_none (by omega)]; rfl
theorem s_DelM (w : World) (F : Nat) (del : ByteArray × ByteArray → Bool) (g cap base n : Nat) (L : List (ByteArray × ByteArray)) (hO : w.ownsRow base 39 2 (.slice (some ⟨g, 0, none⟩) n cap) n (massC L)) (hl : L.length = n) (hn : n ≤ 100000) (hb : base ≤ w.heap.size)
 (hen : ∀ args w, (callFunc F args).run Tryz.prog w = .ok (.enter F args) w)
 (hF : ∀ W (x : ByteArray × ByteArray), Calls Tryz.prog F #[.agg #[.string x.1, .string x.2]] W fun e w' => e = .returned (.bool (del x)) ∧ Below W.heap.size W w') :
 Calls Tryz.prog 39 #[.slice (some ⟨g, 0, none⟩) n cap, .func (.func F) #[] #[]] w fun e w' => (∃ m, m = (L.filter fun x => !del x).length ∧ e = .returned (.slice (some ⟨g, 0, none⟩) m cap) ∧ w'.ownsRow base 39 2 (.slice (some ⟨g, 0, none⟩) m cap) m (massC (L.filter fun x => !del x))) ∧ Below base w w' := by
 have PI := hid (s_IndexFuncM w _ L F del (MRow.of_owns hO) hen hF)
 have HO := hid hO
 obtain ⟨o1, o2, o3, o4, o5, o6⟩ := own_slotK hO
 have HF := hid hF; have HL := hid hl; have HB := hid hb; have HG := hid o1
 by_cases hany : L.any del = true
 ·have st := hid (DelI.start hany)
  have ei : ixM del L = (L.findIdx del : Nat) := by rw [ixM, if_pos hany]
  rw [ei] at PI
  obtain ⟨k, hk⟩ : ∃ k, L.findIdx del = k := ⟨_, rfl⟩
  rw [hk] at PI st
  have hkn : k < n := by have := st.out.le; omega
  have q0 : ((k : Int) == -1) = false := by rw [beq_eq_false_iff_ne]; omega
  have wk : IntKind.i64.wrap ((k : Int) + 1) = ((k + 1 : Nat) : Int) := by rw [IntWalk.i64_in _ ⟨by omega, by omega⟩]; omega
  clear hO hF hl hb hany ei hk o1 o2 o3 o4
  go_enter Tryz.func39, Tryz.ntmps39
  go_wp2_with fail
  refine PI.out.mono ?_; rintro e w1 ⟨rfl, hb1⟩
  have y1 := hid (hb1.mono HB.out)
  have O1 := hid (owns_call HO.out hb1)
  clear hb1
  go_wp2_with fail
  go_loopw [5, 6, 7] (fun s5 s6 s7 wr => ∃ (i j : Nat) (D : List (ByteArray × ByteArray)), s5 = .int .i64 (i : Nat) ∧ s6 = .int .i64 (j : Nat) ∧ j ≤ n ∧ i < j ∧ Hid (DelI del L D i j) ∧ Hid (wr.ownsRow base 39 2 (.slice (some ⟨g, 0, none⟩) n cap) n (massC D)) ∧ Hid (Below base w wr)) (fun s5 s6 s7 wr => n - (intOf s6).toNat)
  case atStart => exact ⟨k, k + 1, L, rfl, by go_num, by omega, by omega, st, O1, y1⟩
  case round =>
   obtain ⟨i, j, D, rfl, rfl, hj, hij, hI, hO, hBl⟩ := hrel
   obtain ⟨o1, o2, o3, o4, -, -⟩ := own_slotK hO.out
   have hDl := hI.out.len
   by_cases hlt : j < n
   ·obtain ⟨x, hx⟩ : ∃ x, L[j]? = some x := ⟨_, List.getElem?_eq_getElem (by rw [HL.out]; exact hlt)⟩
    obtain ⟨m1, m2⟩ := massC_get (hI.out.at_ hx)
    obtain ⟨y, hy⟩ : ∃ y, D[i]? = some y := ⟨_, List.getElem?_eq_getElem (by rw [hDl, HL.out]; omega)⟩
    obtain ⟨m3, m4⟩ := massC_get hy
    have r1 := o4 _ _ m1
    have r2 := o4 _ _ m2
    have r3 := o4 _ _ m3
    have r4 := o4 _ _ m4
    rw [Nat.mul_comm 2] at r1 r2 r3 r4
    have f1 := o3 (i * 2)
    have f2 := o3 (i * 2 + 1)
    have b1 : (0 : Int) ≤ (j : Int) := by omega
    have b2 : (j : Int) < (n : Int) := by omega
    have b3 : (0 : Int) ≤ (i : Int) := by omega
    have b4 : (i : Int) < (n : Int) := by omega
    have wj : IntKind.i64.wrap ((j : Int) + 1) = ((j + 1 : Nat) : Int) := by rw [IntWalk.i64_in _ ⟨by omega, by omega⟩]; omega
    have wi : IntKind.i64.wrap ((i : Int) + 1) = ((i + 1 : Nat) : Int) := by rw [IntWalk.i64_in _ ⟨by omega, by omega⟩]; omega
    obtain ⟨z, hz⟩ : ∃ z, del x = z := ⟨_, rfl⟩
    have C := fun W => hid (hz ▸ HF.out W x)
    have HX := hid hx; have HZ := hid hz
    have hset := hid (massC_set (D := D) (i := i) x (by rw [hDl, HL.out]; omega))
    have X1 := hid (Blk.new wr #[.string x.1, .string x.2] 39)
    have A1 := hid ((Below.refl wr.heap.size wr).alloc (Nat.le_refl _) (.cells #[.string x.1, .string x.2] 39))
    have O2 := hid (owns_call hO.out A1.out)
    have GL : Hid (g < wr.heap.size) := o2
    clear hx hz m1 m2 m3 m4 o4 hy
    obtain ⟨xk, xv⟩ := x
    dsimp only at *
    go_wp2_with fail
    refine (C _).out.mono ?_; rintro e w2 ⟨rfl, hb2⟩
    have hb2' := bnext A1.out hb2
    have X2 := hid (X1.out.call hb2)
    have O3 := hid (owns_call O2.out hb2)
    have B2 := hid (hBl.out.trans (hb2'.mono (by omega)))
    have z0 := X2.out.cell 0
    have z1 := X2.out.cell 1
    simp at z0 z1
    have r3 := (hb2'.cell (p := ⟨g, i * 2, none⟩) GL.out).trans r3
    have r4 := (hb2'.cell (p := ⟨g, i * 2 + 1, none⟩) GL.out).trans r4
    obtain ⟨-, -, g3, -, -, -⟩ := own_slotK O3.out
    have f1 := g3 (i * 2)
    have f2 := g3 (i * 2 + 1)
    clear hb2 hb2' r1 r2
    cases z
    ·go_wp2_with fail
     go_roundw
     case rel =>
      refine ⟨i + 1, j + 1, D.set i (xk, xv), by go_num, by go_num, by omega, by omega, hid (hI.out.keep HX.out HZ.out), ?_, hid ((B2.out.setCell o1 _).setCell o1 _)⟩
      have h5 := own_setK (own_setK O3.out (i * 2) (.string xk)) (i * 2 + 1) (.string xv)
      rw [hset.out] at h5
      exact h5
     case measure => simp [intOf] <;> omega
    ·clear f1 f2 r3 r4
     go_wp2_with fail
     go_roundw
     case rel => exact ⟨i, j + 1, D, rfl, by go_num, by omega, by omega, hid (hI.out.skip HX.out HZ.out), O3, B2⟩
     case measure => simp [intOf] <;> omega
   ·obtain rfl : j = n := by omega
    have q1 : decide ((j : Int) < (j : Int)) = false := by simp
    have b1 : (0 : Int) ≤ (i : Int) := by omega
    have b2 : (i : Int) ≤ (j : Int) := by omega
    have b3 : (j : Int) ≤ (cap : Int) := by omega
    have b4 : (i : Int) ≤ (cap : Int) := by omega
    obtain ⟨vs, hcl⟩ := run_clear2 wr 26 39 0 (.agg #[.string ⟨#[]⟩, .string ⟨#[]⟩]) (.string ⟨#[]⟩) (.string ⟨#[]⟩) Tryz.underlying26 zero_mass rfl rfl rfl g (i * 2) (j - i) (cap - i) (by omega)
     (fun k hk => by
      obtain ⟨v, hv⟩ : ∃ v, (massC D)[i * 2 + k]? = some v := ⟨_, List.getElem?_eq_getElem (by rw [massC_length, hDl, HL.out]; omega)⟩
      rw [o4 _ _ hv]; rfl)
     (fun k hk => o3 _)
    obtain ⟨ys, w3, w4⟩ := own_setCells vs (i * 2) hO.out
    have hfr := hI.out.front
    have hT : L.take j = L := List.take_of_length_le (by rw [HL.out]; exact Nat.le_refl _)
    rw [hT] at hfr
    have hcut := own_cutK w3 (m := i) (by omega)
    rw [w4, massC_take, hfr] at hcut
    have hcb := hid (below_setCells o1 vs (i * 2) hBl.out)
    have hlen : i = (L.filter fun x => !del x).length := by rw [← hfr, List.length_take, hDl, HL.out]; omega
    have HC := hid hcut; have HLN := hid hlen
    clear hlt o4 w3 w4 hfr hcut hlen hT
    go_wp2_with fail
    go_ret
    refine ⟨⟨i, HLN.out, rfl, HC.out⟩, hcb.out⟩
 ·have hk : (L.filter fun x => !del x) = L := List.filter_eq_self.2 fun x hx => by
   cases hd : del x
   ·rfl
   ·exact absurd (List.any_eq_true.2 ⟨x, hx, hd⟩) hany
  have ei : ixM del L = -1 := by rw [ixM, if_neg hany]
  rw [ei] at PI
  rw [hk]
  have q0 : ((-1 : Int) == -1) = true := rfl
  clear hO hF hb hany ei hk o1 o2 o3 o4
  go_enter Tryz.func39, Tryz.ntmps39
  go_wp2_with fail
  refine PI.out.mono ?_; rintro e w1 ⟨rfl, hb1⟩
  go_wp2_with fail
  go_ret
  exact ⟨⟨n, HL.out.symm, rfl, owns_call HO.out hb1⟩, hb1.mono HB.out⟩
end Go.Proofs.YtlmnpocifldpmaaGreatDoor
namespace Go.Proofs.YtlmnpocifldpmaaGreatDoor
open Go.RowKit
open Go.Lib (decDigits nDigits)
def chV (g : Int → Nat) (n j : Nat) : List Int := ((List.range j).map fun (i : Nat) => (i : Int) - n).filter fun v => decide (g v ≠ 0)
theorem chV_succ (g : Int → Nat) (n j : Nat) : chV g n (j + 1) = chV g n j ++ if g ((j : Int) - n) = 0 then [] else [(j : Int) - n] := by
 unfold chV
 rw [List.range_succ, List.map_append, List.filter_append, List.map_singleton]
 by_cases h : g ((j : Int) - n) = 0
 ·simp [h]
 ·simp [h]
def smV (f : Int → Nat) (l : List Int) : Nat := (l.map f).sum
theorem smV_snoc (f : Int → Nat) (l : List Int) (v : Int) : smV f (l ++ [v]) = smV f l + f v := by simp [smV]
theorem smV_chV {f g : Int → Nat} (hf : ∀ v, g v = 0 → f v = 0) (n : Nat) : ∀ j, smV f (chV g n j) = sumN (fun i => f ((i : Int) - n)) j
 | 0 => rfl
 | j + 1 => by
  rw [chV_succ, sumN, ← smV_chV hf n j]
  split
  ·rename_i h
   rw [List.append_nil, hf _ h, Nat.add_zero]
  ·rw [smV_snoc]
theorem smV_all {f g : Int → Nat} (hf : ∀ v, g v = 0 → f v = 0) (n : Nat) : smV f (chV g n (2 * n + 1)) = zS n f := smV_chV hf n _
def chA (g : Int → Nat) (n : Nat) : List Int := chV g n (2 * n + 1)
open Go.Shelf
theorem dy_sz (x m : Nat) : (dyB x m).size ≤ 1000000 := by
 have := outB_size (qmk false x (2 ^ m))
 show (outB _).size ≤ _
 omega
end Go.Proofs.YtlmnpocifldpmaaGreatDoor
namespace Go.Proofs.YtlmnpocifldpmaaGreatDoor
open Go.RowKit
theorem owned_below {w W w3 : World} {t : TypeId} {z : Nat} {v : Value} {m : Nat} {vs : List Value} (h : W.ownsRow w.heap.size t z v m vs) (h0 : Below w.heap.size w W) (hg : W.grownBy w3 v.ownBlock) : Below w.heap.size w w3 := by
 refine h0.trans ⟨hg.os, hg.tape, hg.output, hg.size, fun j hj => hg.block j (Nat.lt_of_lt_of_le hj h0.size) fun e => ?_⟩
 have := (h.lt j e.symm).1
 omega
open Go.Shelf
theorem news_blk {W : World} {g : Nat} {x : Value} {t : TypeId} (h : Blk W g #[x] t) : ∀ j u, [x][j]? = some u → W.cell? ((⟨g, 0, none⟩ : Addr).add j) = some u := fun j u hj => by
 match j, hj with
 | 0, hj =>
  simp at hj
  subst hj
  rw [Addr.add_lit]
  exact h.cell 0
end Go.Proofs.YtlmnpocifldpmaaGreatDoor
namespace Go.Proofs.YtlmnpocifldpmaaGreatDoor
open Go.RowKit
open Go.Lib (decDigits nDigits)
def qC (f : List UInt8 → Nat) (W : List (List UInt8)) : List Nat := (List.range 4).map fun k => W.countP fun x => decide (f x = k)
theorem qC_nil (f : List UInt8 → Nat) : qC f [] = List.replicate 4 0 := rfl
theorem qC_length (f : List UInt8 → Nat) (W : List (List UInt8)) : (qC f W).length = 4 := by simp [qC]
theorem qC_get (f : List UInt8 → Nat) (W : List (List UInt8)) {k : Nat} (hk : k < 4) : (qC f W)[k]? = some (W.countP fun x => decide (f x = k)) := by
 unfold qC
 rw [List.getElem?_map, List.getElem?_range hk]; rfl
theorem qC_snoc (f : List UInt8 → Nat) (W : List (List UInt8)) (x : List UInt8) : qC f (W ++ [x]) = (qC f W).set (f x) ((W.countP fun y => decide (f y = f x)) + 1) := by
 apply List.ext_getElem?
 intro k
 rw [List.getElem?_set]
 by_cases hk : k < 4
 ·rw [qC_get f _ hk, qC_get f _ hk, List.countP_append, qC_length]
  by_cases h : f x = k
  ·subst h
   rw [if_pos rfl, if_pos hk]
   simp
  ·rw [if_neg h]
   simp [h]
 ·have h1 : (qC f (W ++ [x]))[k]? = none := List.getElem?_eq_none (by rw [qC_length]; omega)
  have h2 : (qC f W)[k]? = none := List.getElem?_eq_none (by rw [qC_length]; omega)
  rw [h1, h2, qC_length]
  split
  ·rw [if_neg (by omega)]
  ·rfl
def fnN (C : List Nat) (i : Nat) : Nat := (C.take i).countP fun x => decide (0 < x)
theorem fnN_step {C : List Nat} {i x : Nat} (h : C[i]? = some x) : fnN C (i + 1) = if 0 < x then fnN C i + 1 else fnN C i := by
 unfold fnN
 rw [List.take_add_one, h, List.countP_append]
 by_cases h0 : 0 < x
 ·simp [h0]
 ·simp [h0]
theorem fnN_le (C : List Nat) (i : Nat) (h : C.length = 4) : fnN C i ≤ 4 := by
 have := List.countP_le_length (p := fun x => decide (0 < x)) (l := C.take i)
 rw [List.length_take] at this
 unfold fnN
 omega
end Go.Proofs.YtlmnpocifldpmaaGreatDoor
namespace Go.Proofs.YtlmnpocifldpmaaGreatDoor
open Go.RowKit
def blw (g : Int → Nat) (n : Nat) (j : Int) : Nat := zS n fun y => if decide (y < j) = true then g y else 0
theorem blw_le (g : Int → Nat) (n : Nat) (j : Int) : blw g n j ≤ zS n g := zS_le fun v _ _ => by split <;> omega
theorem blw_not (g : Int → Nat) (n : Nat) (j : Int) : zS n (fun y => if (!decide (y < j)) = true then g y else 0) = zS n g - blw g n j := by
 have : zS n (fun y => if (!decide (y < j)) = true then g y else 0) + blw g n j = zS n g := by
  unfold blw
  rw [← zS_add]
  refine zS_congr fun y _ _ => ?_
  by_cases h : y < j
  ·rw [decide_eq_true h]; simp
  ·rw [decide_eq_false h]; simp
 omega
def gap2 (t : Int) (i k : Nat) (ck : Int) : Int → Bool := fun y => if k < i then decide (y < t - ck) else if k = i then !decide (y < t - ck) else true
def ps2 (t : Int) (i : Nat) : Nat → List Int → List (Int → Bool)
 | _, [] => []
 | k, ck :: r => gap2 t i k ck :: ps2 t i (k + 1) r
theorem ps2_length (t : Int) (i : Nat) : ∀ (l : List Int) k, (ps2 t i k l).length = l.length
 | [], _ => rfl
 | c :: r, k => by rw [ps2, List.length_cons, ps2_length t i r, List.length_cons]
def sq1 (g : Int → Nat) (n : Nat) (t : Int) (i k : Nat) (ck : Int) : Nat := if k < i then blw g n (t - ck) else if k = i then zS n g - blw g n (t - ck) else zS n g
def sqF (g : Int → Nat) (n : Nat) (t : Int) (i : Nat) : Nat → List Int → Nat
 | _, [] => 1
 | k, ck :: r => sq1 g n t i k ck * sqF g n t i (k + 1) r
theorem sq1_eq (g : Int → Nat) (n : Nat) (t : Int) (i k : Nat) (ck : Int) : zS n (fun y => if gap2 t i k ck y = true then g y else 0) = sq1 g n t i k ck := by
 unfold gap2 sq1
 by_cases h1 : k < i
 ·rw [if_pos h1]
  exact zS_congr fun y _ _ => by rw [if_pos h1]
 ·rw [if_neg h1]
  by_cases h2 : k = i
  ·rw [if_pos h2, ← blw_not]
   exact zS_congr fun y _ _ => by rw [if_neg h1, if_pos h2]
  ·rw [if_neg h2]
   exact zS_congr fun y _ _ => by rw [if_neg h1, if_neg h2]; rfl
theorem sqF_eq (g : Int → Nat) (n : Nat) (t : Int) (i : Nat) : ∀ (l : List Int) (k : Nat), pPr n (List.replicate l.length g) (ps2 t i k l) = sqF g n t i k l
 | [], _ => rfl
 | c :: r, k => by rw [List.length_cons, List.replicate_succ, ps2, pPr, sqF, sqF_eq g n t i r, sq1_eq]
def sqT (gA gC : Int → Nat) (n : Nat) (thr : Int) (c : List Int) (i : Nat) : Nat := zS n fun x => gA x * sqF gC n (thr + x) i 0 c
def hitI (t : Int) (l : List Int) : Nat := l.findIdx fun z => decide (t ≤ z)
theorem all2_iff {t : Int} {i : Nat} : ∀ (l xs : List Int) (k : Nat), xs.length = l.length → (allP (ps2 t i k l) xs = true ↔ ∀ j x ck, l[j]? = some ck → xs[j]? = some x → gap2 t i (k + j) ck x = true)
 | [], [], k, _ => by simp [ps2, allP]
 | c :: r, x :: xs, k, h => by
  rw [ps2, allP, Bool.and_eq_true, all2_iff r xs (k + 1) (by simpa using h)]
  constructor
  ·rintro ⟨h1, h2⟩ j y cy hc hy
   cases j with
   | zero => simp at hc hy; subst hc hy; exact h1
   | succ j => simp at hc hy; have := h2 j y cy hc hy; rwa [Nat.add_right_comm] at this
  ·intro h1
   refine ⟨h1 0 x c rfl rfl, fun j y cy hc hy => ?_⟩
   have := h1 (j + 1) y cy (by simpa using hc) (by simpa using hy)
   rwa [Nat.add_right_comm]
theorem nzV_length {c xs : List Int} (h : xs.length = c.length) : (nzV c xs).length = c.length := by
 unfold nzV
 rw [List.length_zipWith, h, Nat.min_self]
theorem hit_iff {c xs : List Int} (h : xs.length = c.length) {t : Int} {i : Nat} (hi : i ≤ c.length) : allP (ps2 t i 0 c) xs = true ↔ hitI t (nzV c xs) = i := by
 rw [all2_iff c xs 0 h]
 simp only [Nat.zero_add]
 have hlen := nzV_length h
 have get : ∀ k (hk : k < c.length), (nzV c xs)[k]'(by omega) = c[k] + xs[k]'(by omega) := fun k hk => by simp [nzV]
 unfold hitI
 constructor
 ·intro ha
  have hlt : ∀ k (hk : k < c.length), k < i → ¬ t ≤ (nzV c xs)[k]'(by omega) := fun k hk hki => by
   have := ha k (xs[k]'(by omega)) c[k] (List.getElem?_eq_getElem hk) (List.getElem?_eq_getElem (by omega))
   unfold gap2 at this
   rw [if_pos hki, decide_eq_true_iff] at this
   rw [get k hk]; omega
  by_cases hc : i = c.length
  ·have : (nzV c xs).findIdx (fun z => decide (t ≤ z)) = (nzV c xs).length := List.findIdx_eq_length.2 fun z hz => by
    obtain ⟨k, hk, rfl⟩ := List.getElem_of_mem hz
    exact decide_eq_false (hlt k (by omega) (by omega))
   omega
  ·have hic : i < c.length := by omega
   rw [List.findIdx_eq (by omega)]
   refine ⟨?_, fun j hj => decide_eq_false (hlt j (by omega) hj)⟩
   have := ha i (xs[i]'(by omega)) c[i] (List.getElem?_eq_getElem hic) (List.getElem?_eq_getElem (by omega))
   unfold gap2 at this
   rw [if_neg (Nat.lt_irrefl _), if_pos rfl, Bool.not_eq_true', decide_eq_false_iff_not] at this
   rw [get i hic]
   exact decide_eq_true (by omega)
 ·intro hf k x ck h1 h2
  obtain ⟨hk, rfl⟩ := List.getElem?_eq_some_iff.1 h1
  obtain ⟨hk2, rfl⟩ := List.getElem?_eq_some_iff.1 h2
  unfold gap2
  by_cases hki : k < i
  ·rw [if_pos hki]
   have := List.not_of_lt_findIdx (p := fun z => decide (t ≤ z)) (xs := nzV c xs) (i := k) (by omega)
   rw [get k hk] at this
   have := of_decide_eq_false (by simpa using this : decide (t ≤ c[k] + xs[k]) = false)
   exact decide_eq_true (by omega)
  ·rw [if_neg hki]
   by_cases he : k = i
   ·rw [if_pos he]
    subst he
    have hlt : (nzV c xs).findIdx (fun z => decide (t ≤ z)) < (nzV c xs).length := by omega
    have := List.findIdx_getElem (w := hlt)
    simp only [hf] at this
    rw [get k hk] at this
    have := of_decide_eq_true this
    simp; omega
   ·rw [if_neg he]
def sqA (thr : Int) (c : List Int) : List Int → Nat
 | x :: ys => hitI (thr + x) (nzV c ys)
 | [] => 0
theorem sqT_vw (gA gC : Int → Nat) (n : Nat) (thr : Int) (c : List Int) {i : Nat} (hi : i ≤ c.length) : sqT gA gC n thr c i = vw n (gA :: List.replicate c.length gC) (fun xs => b1 (decide (sqA thr c xs = i))) := by
 unfold sqT
 rw [vw]
 refine zS_congr fun x _ _ => ?_
 rw [← sqF_eq, ← vw_prod n _ _ (by rw [List.length_replicate, ps2_length])]
 congr 1
 refine vw_congr fun ys hl _ => ?_
 rw [List.length_replicate] at hl
 congr 1
 rw [Bool.eq_iff_iff, hit_iff hl hi, decide_eq_true_iff]; rfl
theorem hitI_le (t : Int) (l : List Int) : hitI t l ≤ l.length := List.findIdx_le_length
theorem sqT_all (gA gC : Int → Nat) (n : Nat) (thr : Int) (c : List Int) : sumN (sqT gA gC n thr c) (c.length + 1) = zS n gA * zS n gC ^ c.length := by
 rw [sumN_congr (fun i hi => sqT_vw gA gC n thr c (Nat.le_of_lt_succ hi)), ← vw_sum]
 have : ∀ L, pAll n (List.replicate L gC) = zS n gC ^ L := fun L => by
  induction L with
  | zero => rfl
  | succ L ih => rw [List.replicate_succ, pAll_cons, ih, Nat.pow_succ, Nat.mul_comm]
 rw [← this, ← pAll_cons]
 refine vw_congr fun xs hl _ => ?_
 cases xs with
 | nil => simp at hl
 | cons x ys =>
  simp at hl
  have hle := hitI_le (thr + x) (nzV c ys)
  rw [nzV_length hl] at hle
  have hA : sqA thr c (x :: ys) = hitI (thr + x) (nzV c ys) := rfl
  rw [hA, sumN_congr (d := fun i => if hitI (thr + x) (nzV c ys) = i then 1 else 0) (fun i _ => by
   by_cases e : hitI (thr + x) (nzV c ys) = i
   ·rw [if_pos e, b1, if_pos (decide_eq_true e)]
   ·rw [if_neg e, b1, if_neg (by simpa using e)]), sumN_one, if_pos (by omega)]
open Go.Lib (decDigits nDigits)
def sqB (g : Int → Nat) (n : Nat) (t : Int) (c : List Int) : Nat → Nat
 | 0 => 1
 | i + 1 => sqB g n t c i * blw g n (t - c.getD i 0)
theorem sqF_rest (g : Int → Nat) (n : Nat) (t : Int) (i : Nat) : ∀ (l : List Int) (k : Nat), i < k → sqF g n t i k l = zS n g ^ l.length
 | [], _, _ => rfl
 | c :: r, k, h => by
  rw [sqF, sqF_rest g n t i r (k + 1) (by omega), sq1, if_neg (by omega), if_neg (by omega), List.length_cons, Nat.pow_succ, Nat.mul_comm]
theorem sqF_at (g : Int → Nat) (n : Nat) (t : Int) (i : Nat) (c : List Int) : ∀ m k, k + m = i → i ≤ c.length → sqB g n t c k * sqF g n t i k (c.drop k) = sqB g n t c i * sqF g n t i i (c.drop i)
 | 0, k, h, _ => by
  obtain rfl : k = i := by omega
  rfl
 | m + 1, k, h, hi => by
  have hk : k < c.length := by omega
  have hd : c.getD k 0 = c[k] := by rw [List.getD_eq_getElem?_getD, List.getElem?_eq_getElem hk]; rfl
  rw [← sqF_at g n t i c m (k + 1) (by omega) hi, List.drop_eq_getElem_cons hk, sqF, sq1, if_pos (by omega), sqB, ← hd, Nat.mul_assoc]
theorem sqF_end (g : Int → Nat) (n : Nat) (t : Int) (c : List Int) : sqF g n t c.length 0 c = sqB g n t c c.length := by
 have h := sqF_at g n t c.length c c.length 0 (by omega) (Nat.le_refl _)
 rw [List.drop_length, sqF, Nat.mul_one] at h
 rw [← h, sqB, Nat.one_mul]; rfl
theorem sqF_hit (g : Int → Nat) (n : Nat) (t : Int) {c : List Int} {i : Nat} (hi : i < c.length) : sqF g n t i 0 c = sqB g n t c i * (zS n g - blw g n (t - c.getD i 0)) * zS n g ^ (c.length - 1 - i) := by
 have h := sqF_at g n t i c i 0 (by omega) (by omega)
 have hd : c.getD i 0 = c[i] := by rw [List.getD_eq_getElem?_getD, List.getElem?_eq_getElem hi]; rfl
 rw [List.drop_eq_getElem_cons hi, sqF, sq1, if_neg (by omega), if_pos rfl, sqF_rest g n t i (c.drop (i + 1)) (i + 1) (by omega), List.length_drop, sqB, Nat.one_mul] at h
 rw [Nat.mul_assoc, hd, show c.length - 1 - i = c.length - (i + 1) by omega, ← h]; rfl
theorem sqB_le {g : Int → Nat} {n : Nat} (hz : zS n g ≤ 2 ^ n) (t : Int) (c : List Int) : ∀ i, sqB g n t c i ≤ 2 ^ (n * i)
 | 0 => by rw [Nat.mul_zero]; exact Nat.le_refl _
 | i + 1 => by
  rw [sqB, Nat.mul_succ, Nat.pow_add]
  exact Nat.mul_le_mul (sqB_le hz t c i) (Nat.le_trans (blw_le g n _) hz)
theorem zs_pow {g : Int → Nat} {n : Nat} (hz : zS n g ≤ 2 ^ n) (i : Nat) : zS n g ^ i ≤ 2 ^ (n * i) := by
 rw [Nat.pow_mul]
 exact Nat.pow_le_pow_left hz i
def sV (f : Int → Nat) (l : List Int) : Nat := (l.map f).sum
theorem sV_nil (f : Int → Nat) : sV f [] = 0 := rfl
theorem sV_take {f : Int → Nat} {l : List Int} {i : Nat} {v : Int} (h : l[i]? = some v) : sV f (l.take (i + 1)) = sV f (l.take i) + f v := by
 unfold sV
 rw [List.take_add_one, h, Option.toList_some, List.map_append, List.sum_append]; simp
theorem sV_le {f : Int → Nat} {l : List Int} (i : Nat) : sV f (l.take i) ≤ sV f l := by
 have e : sV f l = sV f (l.take i) + sV f (l.drop i) := by
  conv => lhs; rw [← List.take_append_drop i l]
  unfold sV
  rw [List.map_append, List.sum_append]
 omega
theorem sV_perm {f : Int → Nat} {l m : List Int} (h : l.Perm m) : sV f l = sV f m := (h.map f).sum_nat
def Runs (g : Int → Nat) (n : Nat) (l : List Int) : Prop := ∀ f : Int → Nat, (∀ v, g v = 0 → f v = 0) → sV f l = zS n f
section
variable {gA gC : Int → Nat} {n : Nat} {kA kC : List Int} (hA : zS n gA ≤ 2 ^ n) (hC : zS n gC ≤ 2 ^ n) (rA : Runs gA n kA) (rC : Runs gC n kC)
def buV (g : Int → Nat) (most : Int) (v : Int) : Nat := if v < most then g v else 0
def beN' (g : Int → Nat) (k : List Int) (most : Int) (j : Nat) : Nat := sV (buV g most) (k.take j)
theorem be_end {g : Int → Nat} {k : List Int} (r : Runs g n k) (most : Int) : beN' g k most k.length = blw g n most := by
 unfold beN'
 rw [List.take_length, r (buV g most) (fun v h => by unfold buV; rw [h]; split <;> rfl)]
 unfold blw
 refine zS_congr fun y _ _ => ?_
 unfold buV
 by_cases h : y < most
 ·rw [if_pos h, if_pos (decide_eq_true h)]
 ·rw [if_neg h, if_neg (by simpa using h)]
theorem be_le {g : Int → Nat} {k : List Int} (hz : zS n g ≤ 2 ^ n) (r : Runs g n k) (most : Int) (j : Nat) : beN' g k most j ≤ 2 ^ n := by
 have h := be_end r most
 unfold beN' at h
 rw [List.take_length] at h
 have h1 := sV_le (f := buV g most) (l := k) j
 have h2 := blw_le g n most
 unfold beN'
 omega
theorem be_plus {g : Int → Nat} {k : List Int} (hz : zS n g ≤ 2 ^ n) (r : Runs g n k) {j : Nat} {v most : Int} (h : k[j]? = some v) (hv : v < most) (hn : n ≤ 1000) : op2B (· + ·) (dyB (beN' g k most j) n) (dyB (g v) n) = dyB (beN' g k most (j + 1)) n := by
 have e : beN' g k most (j + 1) = beN' g k most j + g v := by
  have := sV_take (f := buV g most) h
  unfold beN'
  rw [this]
  unfold buV
  rw [if_pos hv]
 have := be_le hz r most (j + 1)
 rw [e, dy_add (by omega) hn]
theorem be_skip {g : Int → Nat} {k : List Int} {j : Nat} {v most : Int} (h : k[j]? = some v) (hv : ¬ v < most) : beN' g k most (j + 1) = beN' g k most j := by
 have := sV_take (f := buV g most) h
 unfold beN'
 rw [this]
 unfold buV
 rw [if_neg hv]; rfl
theorem sq_after {i : Nat} (hC : zS n gC ≤ 2 ^ n) (hm : n * (i + 1) ≤ 1000) : op2B (· * ·) (dyB (zS n gC ^ i) (n * i)) (dyB (zS n gC) n) = dyB (zS n gC ^ (i + 1)) (n * (i + 1)) := by
 rw [dy_mul (zs_pow hC i) hC (by rw [Nat.mul_succ] at hm; exact hm), Nat.pow_succ, Nat.mul_succ]
def sqP (gA gC : Int → Nat) (n : Nat) (thr x : Int) (c : List Int) (i : Nat) : Nat := gA x * sqB gC n (thr + x) c i
theorem sqP_le (hA : zS n gA ≤ 2 ^ n) (hC : zS n gC ≤ 2 ^ n) (hx : ∀ x, gA x ≤ 2 ^ n) (thr x : Int) (c : List Int) (i : Nat) : sqP gA gC n thr x c i ≤ 2 ^ (n * (i + 1)) := by
 unfold sqP
 rw [Nat.mul_succ, Nat.add_comm, Nat.pow_add]
 exact Nat.mul_le_mul (hx x) (sqB_le hC _ _ _)
theorem sq_times (hA : zS n gA ≤ 2 ^ n) (hC : zS n gC ≤ 2 ^ n) (hx : ∀ x, gA x ≤ 2 ^ n) (thr x : Int) (c : List Int) {i : Nat} (hm : n * (i + 2) ≤ 1000) :
 op2B (· * ·) (dyB (sqP gA gC n thr x c i) (n * (i + 1))) (dyB (blw gC n (thr + x - c.getD i 0)) n) = dyB (sqP gA gC n thr x c (i + 1)) (n * (i + 2)) := by
 rw [dy_mul (sqP_le hA hC hx thr x c i) (Nat.le_trans (blw_le gC n _) hC) (by rw [Nat.mul_succ] at hm; exact hm)]
 unfold sqP
 rw [sqB, Nat.mul_assoc, show n * (i + 1) + n = n * (i + 2) from (Nat.mul_succ n (i + 1)).symm]
theorem sq_hit (hA : zS n gA ≤ 2 ^ n) (hC : zS n gC ≤ 2 ^ n) (hx : ∀ x, gA x ≤ 2 ^ n) (thr x : Int) {c : List Int} {i : Nat} (hi : i < c.length) (hm : n * (c.length + 1) ≤ 1000) :
 op2B (· * ·) (op2B (· * ·) (dyB (sqP gA gC n thr x c i) (n * (i + 1))) (op2B (· - ·) (dyB (zS n gC) n) (dyB (blw gC n (thr + x - c.getD i 0)) n))) (dyB (zS n gC ^ (c.length - 1 - i)) (n * (c.length - 1 - i))) = dyB (gA x * sqF gC n (thr + x) i 0 c) (n * (c.length + 1)) := by
 have b1 := blw_le gC n (thr + x - c.getD i 0)
 have e0 : n * (i + 1) + n + n * (c.length - 1 - i) = n * (c.length + 1) := by
  rw [← Nat.mul_succ, ← Nat.mul_add]; congr 1; omega
 have m1 : n * (i + 1) + n ≤ 1000 := by omega
 have l1 : sqP gA gC n thr x c i * (zS n gC - blw gC n (thr + x - c.getD i 0)) ≤ 2 ^ (n * (i + 1) + n) := by
  rw [Nat.pow_add]
  exact Nat.mul_le_mul (sqP_le hA hC hx thr x c i) (Nat.le_trans (Nat.sub_le _ _) hC)
 rw [dy_sub hC b1 (by omega), dy_mul (sqP_le hA hC hx thr x c i) (Nat.le_trans (Nat.sub_le _ _) hC) m1, dy_mul l1 (zs_pow hC _) (by omega), e0, sqF_hit gC n _ hi]
 unfold sqP
 congr 1
 rw [Nat.mul_assoc, Nat.mul_assoc, Nat.mul_assoc]
def sqS (gA gC : Int → Nat) (n : Nat) (thr : Int) (c : List Int) (k : List Int) (i j : Nat) : Nat := sV (fun x => gA x * sqF gC n (thr + x) i 0 c) (k.take j)
theorem sqS_end (rA : Runs gA n kA) (thr : Int) (c : List Int) (i : Nat) : sqS gA gC n thr c kA i kA.length = sqT gA gC n thr c i := by
 unfold sqS sqT
 rw [List.take_length]
 exact rA _ fun v h => by rw [h, Nat.zero_mul]
theorem sqT_le (hA : zS n gA ≤ 2 ^ n) (hC : zS n gC ≤ 2 ^ n) (thr : Int) (c : List Int) {i : Nat} (hi : i ≤ c.length) : sqT gA gC n thr c i ≤ 2 ^ (n * (c.length + 1)) := by
 have h1 := sqT_all gA gC n thr c
 have h2 := sumN_at (f := sqT gA gC n thr c) (i := i) (n := c.length + 1) (by omega)
 have h3 : zS n gA * zS n gC ^ c.length ≤ 2 ^ n * 2 ^ (n * c.length) := Nat.mul_le_mul hA (zs_pow hC _)
 rw [Nat.mul_succ, Nat.add_comm, Nat.pow_add]
 omega
theorem sqS_le (hA : zS n gA ≤ 2 ^ n) (hC : zS n gC ≤ 2 ^ n) (rA : Runs gA n kA) (thr : Int) (c : List Int) {i : Nat} (hi : i ≤ c.length) (j : Nat) : sqS gA gC n thr c kA i j ≤ 2 ^ (n * (c.length + 1)) := by
 have h := sqS_end (gC := gC) rA thr c i
 unfold sqS at h
 rw [List.take_length] at h
 have h1 := sV_le (f := fun x => gA x * sqF gC n (thr + x) i 0 c) (l := kA) j
 have h2 := sqT_le hA hC thr c hi
 unfold sqS
 omega
theorem sq_plus (hA : zS n gA ≤ 2 ^ n) (hC : zS n gC ≤ 2 ^ n) (rA : Runs gA n kA) (thr : Int) {c : List Int} {i j : Nat} {x : Int} (hi : i ≤ c.length) (h : kA[j]? = some x) (hm : n * (c.length + 1) ≤ 1000) :
 op2B (· + ·) (dyB (sqS gA gC n thr c kA i j) (n * (c.length + 1))) (dyB (gA x * sqF gC n (thr + x) i 0 c) (n * (c.length + 1))) = dyB (sqS gA gC n thr c kA i (j + 1)) (n * (c.length + 1)) := by
 have e : sqS gA gC n thr c kA i (j + 1) = sqS gA gC n thr c kA i j + gA x * sqF gC n (thr + x) i 0 c := sV_take h
 have := sqS_le (gC := gC) hA hC rA thr c hi (j + 1)
 rw [e, dy_add (by omega) hm]
theorem sqP_end (thr x : Int) (c : List Int) : sqP gA gC n thr x c c.length = gA x * sqF gC n (thr + x) c.length 0 c := by
 unfold sqP
 rw [sqF_end]
def sqL (gA gC : Int → Nat) (n L : Nat) : Nat := 2 ^ (n * (L + 1)) - zS n gA * zS n gC ^ L
theorem sq_sure (hA : zS n gA ≤ 2 ^ n) (hC : zS n gC ≤ 2 ^ n) {L : Nat} (hm : n * (L + 1) ≤ 1000) : op2B (· - ·) ⟨#[49]⟩ (op2B (· * ·) (dyB (zS n gA) n) (dyB (zS n gC ^ L) (n * L))) = dyB (sqL gA gC n L) (n * (L + 1)) := by
 have e : n + n * L = n * (L + 1) := by rw [Nat.mul_succ, Nat.add_comm]
 have h : zS n gA * zS n gC ^ L ≤ 2 ^ (n * (L + 1)) := by
  rw [← e, Nat.pow_add]
  exact Nat.mul_le_mul hA (zs_pow hC L)
 rw [dy_mul hA (zs_pow hC L) (by omega), e, ← dy_full (n * (L + 1)), dy_sub (Nat.le_refl _) h hm]; rfl
end
def m1B : ByteArray := ⟨#[45, 49]⟩
def sqAll (gA gC : Int → Nat) (n : Nat) (thr : Int) (c : List Int) (i : Nat) : List (ByteArray × ByteArray) := (List.range i).map fun k => (numB k, dyB (sqT gA gC n thr c k) (n * (c.length + 1)))
theorem sqAll_succ (gA gC : Int → Nat) (n : Nat) (thr : Int) (c : List Int) (i : Nat) : sqAll gA gC n thr c (i + 1) = sqAll gA gC n thr c i ++ [(numB i, dyB (sqT gA gC n thr c i) (n * (c.length + 1)))] := by
 unfold sqAll
 rw [List.range_succ, List.map_append]; rfl
theorem sqAll_length (gA gC : Int → Nat) (n : Nat) (thr : Int) (c : List Int) (i : Nat) : (sqAll gA gC n thr c i).length = i := by simp [sqAll]
def sqW (gA gC : Int → Nat) (n : Nat) (thr : Int) (c : List Int) (i : Nat) : List (ByteArray × ByteArray) :=
 [(m1B, dyB (sqT gA gC n thr c c.length) (n * (c.length + 1))), (lateB, dyB (sqL gA gC n c.length) (n * (c.length + 1)))] ++ sqAll gA gC n thr c i
theorem sqW_succ (gA gC : Int → Nat) (n : Nat) (thr : Int) (c : List Int) (i : Nat) : sqW gA gC n thr c (i + 1) = sqW gA gC n thr c i ++ [(numB i, dyB (sqT gA gC n thr c i) (n * (c.length + 1)))] := by
 unfold sqW
 rw [sqAll_succ, List.append_assoc]
def sqD (gA gC : Int → Nat) (n : Nat) (thr : Int) (c : List Int) : List (ByteArray × ByteArray) := (sqW gA gC n thr c c.length).filter notZ
theorem sqW_nd (gA gC : Int → Nat) (n : Nat) (thr : Int) (c : List Int) : ((sqW gA gC n thr c c.length).map keyL).Nodup := by
 unfold sqW sqAll
 rw [List.map_append, List.map_map]
 have hm : ∀ k : Nat, ∀ r : ByteArray, keyL (m1B, r) ≠ keyL (numB k, r) := fun k r e => by
  have e1 : zB (-1) = numB k := ByteArray.ext (Array.ext' (by
   have : keyL (m1B, r) = (zB (-1)).data.toList := show m1B.data.toList = (zB (-1)).data.toList from by decide +kernel
   rw [← this]; exact e))
  rw [← zB_nat] at e1
  have := zB_inj e1
  omega
 have hl : ∀ k : Nat, (numB k).data.toList ≠ lateB.data.toList := fun k => by
  have := zB_late (k : Int)
  rw [zB_nat] at this
  exact this
 refine List.nodup_append.2 ⟨show [m1B.data.toList, lateB.data.toList].Nodup from by decide +kernel, ?_, ?_⟩
 ·rw [List.Nodup, List.pairwise_map]
  refine List.nodup_range.imp fun {a b} hab e => hab ?_
  simp only [Function.comp, keyL, numB_list] at e
  exact decDigits_inj e
 ·intro a ha b hb e
  subst e
  simp only [List.mem_map, Function.comp] at hb
  obtain ⟨k, _, rfl⟩ := hb
  simp only [List.map_cons, List.map_nil, List.mem_cons, List.not_mem_nil, or_false] at ha
  rcases ha with h | h
  ·exact hm k ⟨#[]⟩ h.symm
  ·exact hl k h
theorem sqD_nd (gA gC : Int → Nat) (n : Nat) (thr : Int) (c : List Int) : ((sqD gA gC n thr c).map keyL).Nodup := (List.filter_sublist.map keyL).nodup (sqW_nd gA gC n thr c)
theorem m1B_late : m1B ≠ lateB := by decide
theorem m1B_num (k : Nat) : m1B ≠ numB k := fun e => by
 have e1 : zB (-1) = numB k := (show zB (-1) = m1B from by decide +kernel).trans e
 rw [← zB_nat] at e1
 have := zB_inj e1
 omega
def cntS (gA gC : Int → Nat) (n : Nat) (thr : Int) (c : List Int) (key : ByteArray) : Nat := if key = lateB then sqL gA gC n c.length else if key = m1B then sqT gA gC n thr c c.length else sumN (fun i => if numB i = key then sqT gA gC n thr c i else 0) c.length
theorem cntS_late (gA gC : Int → Nat) (n : Nat) (thr : Int) (c : List Int) : cntS gA gC n thr c lateB = sqL gA gC n c.length := if_pos rfl
theorem cntS_none (gA gC : Int → Nat) (n : Nat) (thr : Int) (c : List Int) : cntS gA gC n thr c m1B = sqT gA gC n thr c c.length := by
 unfold cntS
 rw [if_neg m1B_late, if_pos rfl]
theorem cntS_num (gA gC : Int → Nat) (n : Nat) (thr : Int) (c : List Int) {i : Nat} (hi : i < c.length) : cntS gA gC n thr c (numB i) = sqT gA gC n thr c i := by
 unfold cntS
 rw [if_neg (numB_lateB i), if_neg (fun e => m1B_num i e.symm), sumN_congr (d := fun j => if j = i then sqT gA gC n thr c i else 0) (fun j _ => by
  by_cases e : j = i
  ·subst e; rw [if_pos rfl, if_pos rfl]
  ·rw [if_neg e, if_neg (fun h => e (numB_inj h))]), sumN_pick, if_pos hi]
def KeyS (L : Nat) (key : ByteArray) : Prop := key = lateB ∨ key = m1B ∨ ∃ k, k < L ∧ key = numB k
theorem sqW_mem {gA gC : Int → Nat} {n : Nat} {thr : Int} {c : List Int} {p : ByteArray × ByteArray} : p ∈ sqW gA gC n thr c c.length ↔ KeyS c.length p.1 ∧ p.2 = dyB (cntS gA gC n thr c p.1) (n * (c.length + 1)) := by
 obtain ⟨k, v⟩ := p
 unfold sqW sqAll KeyS
 rw [List.mem_append, List.mem_map]
 simp only [List.mem_cons, List.not_mem_nil, or_false, Prod.mk.injEq]
 constructor
 ·rintro ((⟨rfl, rfl⟩ | ⟨rfl, rfl⟩) | ⟨i, hi, rfl, rfl⟩)
  ·exact ⟨.inr (.inl rfl), by rw [cntS_none]⟩
  ·exact ⟨.inl rfl, by rw [cntS_late]⟩
  ·have hi := List.mem_range.1 hi
   exact ⟨.inr (.inr ⟨i, hi, rfl⟩), by rw [cntS_num gA gC n thr c hi]⟩
 ·rintro ⟨rfl | rfl | ⟨i, hi, rfl⟩, rfl⟩
  ·exact .inl (.inr ⟨rfl, by rw [cntS_late]⟩)
  ·exact .inl (.inl ⟨rfl, by rw [cntS_none]⟩)
  ·exact .inr ⟨i, List.mem_range.2 hi, rfl, by rw [cntS_num gA gC n thr c hi]⟩
theorem sqD_mem {gA gC : Int → Nat} {n : Nat} {thr : Int} {c : List Int} {p : ByteArray × ByteArray} : p ∈ sqD gA gC n thr c ↔ p ∈ sqW gA gC n thr c c.length ∧ p.2 ≠ ⟨#[48]⟩ := by
 unfold sqD notZ
 rw [List.mem_filter]
 simp
def sqO (a r : ByteArray) (thr : Int) (c : List Int) : List ByteArray → Option Nat
 | [] => none
 | b :: bs => (nz1 true a thr b).bind fun t => (nzO true r c bs).map fun l => hitI t l
theorem sqO_chunks {a r : ByteArray} (ha : gPE a = 0) (hr : gPE r = 0) {n : Nat} (hn : n ≤ 256) (thr : Int) (c : List Int) (l : List UInt8) (hl : l.length = n * (c.length + 1)) (hb : ∀ b ∈ l, b = 48 ∨ b = 49) :
 sqO a r thr c ((chk n (c.length + 1) l).map tb) = (vals n (valT (bN (cW a)) (bN (qD a)) true :: List.replicate c.length (valT (bN (cW r)) (bN (qD r)) true)) l).map (sqA thr c) := by
 rw [Nat.mul_add, Nat.mul_one] at hl
 have hb1 : ∀ b ∈ l.take n, b = 48 ∨ b = 49 := fun b h => hb b (List.mem_of_mem_take h)
 have e1 := nz1_val (a := a) (b := tb (l.take n)) true ha (chkE_tb hb1 (by rw [List.length_take]; omega)) thr
 rw [tb_list] at e1
 rw [chk, List.map_cons, sqO, e1, nzO_chunks true hr hn c (l.drop n) (by rw [List.length_drop]; omega) (fun b h => hb b (List.mem_of_mem_drop h)), vals]
 cases valT (bN (cW a)) (bN (qD a)) true (l.take n) with
 | none => rfl
 | some x =>
  cases vals n (List.replicate c.length (valT (bN (cW r)) (bN (qD r)) true)) (l.drop n) with
  | none => rfl
  | some ys => rfl
theorem sq_fs {a r : ByteArray} (ha : gPE a = 0) (hr : gPE r = 0) (n L : Nat) (P : List Int → Bool) : cw (n * (L + 1)) (fun l => ifS (vals n (valT (bN (cW a)) (bN (qD a)) true :: List.replicate L (valT (bN (cW r)) (bN (qD r)) true)) l) P) = vw n (gV (bN (cW a)) (bN (qD a)) true n :: List.replicate L (gV (bN (cW r)) (bN (qD r)) true n)) fun xs => b1 (P xs) := by
 have h2 := cw_vals (n := n) (fs := valT (bN (cW a)) (bN (qD a)) true :: List.replicate L (valT (bN (cW r)) (bN (qD r)) true)) P (fun f hf x v hx => by
  rcases List.mem_cons.1 hf with rfl | hf
  ·exact valT_w (gPE_ok ha).2 true n x v hx
  ·rw [List.eq_of_mem_replicate hf]
   exact valT_w (gPE_ok hr).2 true n x v hx)
 rw [List.length_cons, List.length_replicate, List.map_cons, List.map_replicate] at h2
 exact h2
theorem sq_count {a r : ByteArray} (ha : gPE a = 0) (hr : gPE r = 0) {n : Nat} (hn : n ≤ 256) (thr : Int) {c : List Int} {i : Nat} (hi : i ≤ c.length) : (allW (n * (c.length + 1))).countP (fun l => decide (sqO a r thr c ((chk n (c.length + 1) l).map tb) = some i)) = sqT (gV (bN (cW a)) (bN (qD a)) true n) (gV (bN (cW r)) (bN (qD r)) true n) n thr c i := by
 rw [sqT_vw _ _ _ _ _ hi, ← sq_fs ha hr n c.length, ← cw_all]
 refine List.countP_congr fun l hl => ?_
 rw [sqO_chunks ha hr hn thr c l (allW_len hl) (allW_bits hl)]
 cases vals n (valT (bN (cW a)) (bN (qD a)) true :: List.replicate c.length (valT (bN (cW r)) (bN (qD r)) true)) l with
 | none => simp [ifS]
 | some xs => simp [ifS]
theorem sq_late {a r : ByteArray} (ha : gPE a = 0) (hr : gPE r = 0) {n : Nat} (hn : n ≤ 256) (thr : Int) (c : List Int) : (allW (n * (c.length + 1))).countP (fun l => decide (sqO a r thr c ((chk n (c.length + 1) l).map tb) = none)) = 2 ^ (n * (c.length + 1)) - zS n (gV (bN (cW a)) (bN (qD a)) true n) * zS n (gV (bN (cW r)) (bN (qD r)) true n) ^ c.length := by
 have h0 := sq_fs ha hr n c.length (fun _ => true)
 have h2 := cw_not (fun l => ifS (vals n (valT (bN (cW a)) (bN (qD a)) true :: List.replicate c.length (valT (bN (cW r)) (bN (qD r)) true)) l) (fun _ => true)) (n * (c.length + 1))
 have h1 : (allW (n * (c.length + 1))).countP (fun l => decide (sqO a r thr c ((chk n (c.length + 1) l).map tb) = none)) = cw (n * (c.length + 1)) (fun l => !ifS (vals n (valT (bN (cW a)) (bN (qD a)) true :: List.replicate c.length (valT (bN (cW r)) (bN (qD r)) true)) l) (fun _ => true)) := by
  rw [← cw_all]
  refine List.countP_congr fun l hl => ?_
  rw [sqO_chunks ha hr hn thr c l (allW_len hl) (allW_bits hl)]
  cases vals n (valT (bN (cW a)) (bN (qD a)) true :: List.replicate c.length (valT (bN (cW r)) (bN (qD r)) true)) l with
  | none => simp [ifS]
  | some xs => simp [ifS]
 have h3 := sqT_all (gV (bN (cW a)) (bN (qD a)) true n) (gV (bN (cW r)) (bN (qD r)) true n) n thr c
 rw [h1, ← h3, sumN_congr (fun i hi => sqT_vw _ _ n thr c (Nat.le_of_lt_succ hi)), ← vw_sum]
 have h4 : vw n (gV (bN (cW a)) (bN (qD a)) true n :: List.replicate c.length (gV (bN (cW r)) (bN (qD r)) true n)) (fun xs => sumN (fun i => b1 (decide (sqA thr c xs = i))) (c.length + 1)) = vw n (gV (bN (cW a)) (bN (qD a)) true n :: List.replicate c.length (gV (bN (cW r)) (bN (qD r)) true n)) (fun xs => b1 true) := by
  refine vw_congr fun xs hl _ => ?_
  cases xs with
  | nil => simp at hl
  | cons x ys =>
   simp at hl
   have hle := hitI_le (thr + x) (nzV c ys)
   rw [nzV_length hl] at hle
   rw [show sqA thr c (x :: ys) = hitI (thr + x) (nzV c ys) from rfl, sumN_congr (d := fun i => if hitI (thr + x) (nzV c ys) = i then 1 else 0) (fun i _ => by
    by_cases e : hitI (thr + x) (nzV c ys) = i
    ·rw [if_pos e, b1, if_pos (decide_eq_true e)]
    ·rw [if_neg e, b1, if_neg (by simpa using e)]), sumN_one, if_pos (by omega)]
   rfl
 rw [h4, ← h0]
 omega
def sqnE (c : List Int) (thr : Int) (a r : ByteArray) : Int := if ctE c ≠ 0 then ctE c else if wildB thr = true then 2 else if gPE a ≠ 0 then gPE a else gPE r
def fsE (c : List Int) (thr : Int) (a r : ByteArray) (b : List ByteArray) : Int := if sqnE c thr a r ≠ 0 then sqnE c thr a r else wdE b ((c.length + 1 : Nat) : Int)
def fsV (n : Nat) : Option Nat → Int × Bool
 | none => (0, false)
 | some i => (if i = n then -1 else (i : Int), true)
def fsA (c : List Int) (thr : Int) (a r : ByteArray) (b : List ByteArray) : Int × Bool := if fsE c thr a r b = 0 then fsV c.length (sqO a r thr c b) else (0, false)
theorem sqnE_ok {c : List Int} {thr : Int} {a r : ByteArray} (h : sqnE c thr a r = 0) : ctE c = 0 ∧ wildB thr = false ∧ gPE a = 0 ∧ gPE r = 0 := by
 unfold sqnE at h
 split at h
 ·rename_i h1; exact absurd h h1
 ·rename_i h1
  split at h
  ·cases h
  ·rename_i h2
   split at h
   ·rename_i h3; exact absurd h h3
   ·rename_i h3
    exact ⟨Classical.byContradiction h1, by simpa using h2, Classical.byContradiction h3, h⟩
theorem sqO_le {a r : ByteArray} {thr : Int} {c : List Int} {b : List ByteArray} (hb : b.length = c.length + 1) {i : Nat} (h : sqO a r thr c b = some i) : i ≤ c.length := by
 cases b with
 | nil => simp at hb
 | cons b bs =>
  rw [sqO] at h
  cases h1 : nz1 true a thr b with
  | none => rw [h1] at h; cases h
  | some t =>
   rw [h1] at h
   cases h2 : nzO true r c bs with
   | none => rw [h2] at h; cases h
   | some l =>
    rw [h2] at h
    have hl := nzO_length (by simpa using hb.symm) h2
    cases h
    rw [← hl]
    exact hitI_le t l
def slE (c : List Int) (thr : Int) (a r : ByteArray) (n : Int) : Int := if sqnE c thr a r ≠ 0 then sqnE c thr a r else if n < 0 ∨ 32 < n then 2 else if 256 < n * ((c.length : Int) + 1) then 5 else 0
def slR (c : List Int) (thr : Int) (a r : ByteArray) (n : Int) : List (ByteArray × ByteArray) := if slE c thr a r n = 0 then sortM (sqD (gV (bN (cW a)) (bN (qD a)) true n.toNat) (gV (bN (cW r)) (bN (qD r)) true n.toNat) n.toNat thr c) else []
theorem slE_ok {c : List Int} {thr : Int} {a r : ByteArray} {n : Int} (h : slE c thr a r n = 0) : 1 ≤ c.length ∧ gPE a = 0 ∧ gPE r = 0 ∧ 0 ≤ n := by
 unfold slE at h
 split at h
 ·rename_i h1; exact absurd h h1
 ·rename_i h1
  obtain ⟨q1, q2, q3, q4⟩ := sqnE_ok (Classical.byContradiction h1)
  split at h
  ·cases h
  ·refine ⟨?_, q3, q4, by omega⟩
   unfold ctE at q1
   split at q1
   ·cases q1
   ·omega
def slS (c : List Int) (thr : Int) (a r : ByteArray) (n : Nat) (l : List UInt8) : Nat :=
 match sqO a r thr c ((chk n (c.length + 1) l).map tb) with
 | none => 3
 | some i => if i = c.length then 0 else i + 1
theorem slS_cases (c : List Int) (thr : Int) (a r : ByteArray) (n : Nat) (l : List UInt8) : sqO a r thr c ((chk n (c.length + 1) l).map tb) = none ∨ ∃ i, i ≤ c.length ∧ sqO a r thr c ((chk n (c.length + 1) l).map tb) = some i := by
 cases h : sqO a r thr c ((chk n (c.length + 1) l).map tb) with
 | none => exact .inl rfl
 | some i => exact .inr ⟨i, sqO_le (by rw [List.length_map, chk_length]) h, rfl⟩
theorem slS_fs {c : List Int} {thr : Int} {a r : ByteArray} {n : Nat} {l : List UInt8} (hq : sqnE c thr a r = 0) (hn : n ≤ 256) (hl : l.length = n * (c.length + 1)) (hb : ∀ b ∈ l, b = 48 ∨ b = 49) :
 fsE c thr a r ((chk n (c.length + 1) l).map tb) = 0 ∧ fsA c thr a r ((chk n (c.length + 1) l).map tb) = fsV c.length (sqO a r thr c ((chk n (c.length + 1) l).map tb)) := by
 have e : fsE c thr a r ((chk n (c.length + 1) l).map tb) = 0 := by
  unfold fsE wdE
  rw [if_neg (by simpa using hq), if_pos (by rw [List.length_map, chk_length]), bsE_zero]
  intro b hb'
  obtain ⟨x, hx, rfl⟩ := List.mem_map.1 hb'
  obtain ⟨h1, h2⟩ := chk_bits hl hb x hx
  exact chkE_tb h2 (by omega)
 exact ⟨e, if_pos e⟩
theorem sct_none {c : List Int} {thr : Int} {a r : ByteArray} (ha : gPE a = 0) (hr : gPE r = 0) {n : Nat} (hn : n ≤ 256) : (allW (n * (c.length + 1))).countP (fun x => decide (slS c thr a r n x = 0)) = sqT (gV (bN (cW a)) (bN (qD a)) true n) (gV (bN (cW r)) (bN (qD r)) true n) n thr c c.length := by
 rw [← sq_count ha hr hn thr (Nat.le_refl _)]
 refine List.countP_congr fun l hl => ?_
 unfold slS
 rcases slS_cases c thr a r n l with h | ⟨i, hi, h⟩
 ·rw [h]; simp
 ·rw [h]
  by_cases e : i = c.length
  ·simp [e]
  ·simp [e]
theorem sct_hit {c : List Int} {thr : Int} {a r : ByteArray} (ha : gPE a = 0) (hr : gPE r = 0) {n : Nat} (hn : n ≤ 256) {k : Nat} (hk : k < c.length) (h3 : c.length ≤ 2) : (allW (n * (c.length + 1))).countP (fun x => decide (slS c thr a r n x = k + 1)) = sqT (gV (bN (cW a)) (bN (qD a)) true n) (gV (bN (cW r)) (bN (qD r)) true n) n thr c k := by
 rw [← sq_count ha hr hn thr (Nat.le_of_lt hk)]
 refine List.countP_congr fun l hl => ?_
 unfold slS
 rcases slS_cases c thr a r n l with h | ⟨i, hi, h⟩
 ·rw [h]; simp; omega
 ·rw [h]
  by_cases e : i = c.length
  ·simp [e]; omega
  ·simp [e]
theorem sct_late {c : List Int} {thr : Int} {a r : ByteArray} (ha : gPE a = 0) (hr : gPE r = 0) {n : Nat} (hn : n ≤ 256) (h3 : c.length ≤ 2) : (allW (n * (c.length + 1))).countP (fun x => decide (slS c thr a r n x = 3)) = sqL (gV (bN (cW a)) (bN (qD a)) true n) (gV (bN (cW r)) (bN (qD r)) true n) n c.length := by
 unfold sqL
 rw [← sq_late ha hr hn thr c]
 refine List.countP_congr fun l hl => ?_
 unfold slS
 rcases slS_cases c thr a r n l with h | ⟨i, hi, h⟩
 ·rw [h]; simp
 ·rw [h]
  by_cases e : i = c.length
  ·simp [e]
  ·simp [e]; omega
theorem sct_two {c : List Int} {thr : Int} {a r : ByteArray} {n k : Nat} (h2 : c.length < k) (hk : k < 3) (W : List (List UInt8)) : W.countP (fun x => decide (slS c thr a r n x = k)) = 0 := by
 rw [List.countP_eq_zero]
 intro l _
 unfold slS
 rcases slS_cases c thr a r n l with h | ⟨i, hi, h⟩
 ·rw [h]; simp; omega
 ·rw [h]
  by_cases e : i = c.length
  ·simp [e]; omega
  ·simp [e]; omega
def kyS (k : Nat) : ByteArray := if k = 0 then m1B else if k = 3 then lateB else numB (k - 1)
theorem sct_main {c : List Int} {thr : Int} {a r : ByteArray} {n : Nat} (h : slE c thr a r (n : Nat) = 0) (hK : c.length = 1 ∨ c.length = 2) (hn : n ≤ 4) :
 sqnE c thr a r = 0 ∧ (∀ k x, (qC (slS c thr a r n) (allW (n * (c.length + 1))))[k]? = some x → 0 < x → hasM (slR c thr a r (n : Nat)) (kyS k, shB x (2 ^ (n * (c.length + 1)))) = true) ∧
 fnN (qC (slS c thr a r n) (allW (n * (c.length + 1)))) 4 = (slR c thr a r (n : Nat)).length := by
 obtain ⟨c1, hga, hgr, -⟩ := slE_ok h
 have hq : sqnE c thr a r = 0 := by
  unfold slE at h
  split at h
  ·rename_i h1; exact absurd h h1
  ·rename_i h1; exact Classical.byContradiction h1
 have hR : slR c thr a r (n : Nat) = sortM (sqD (gV (bN (cW a)) (bN (qD a)) true n) (gV (bN (cW r)) (bN (qD r)) true n) n thr c) := if_pos h
 have hzA : zS n (gV (bN (cW a)) (bN (qD a)) true n) ≤ 2 ^ n := by have := gV_all (gPE_ok hga).2 true n; omega
 have hzC : zS n (gV (bN (cW r)) (bN (qD r)) true n) ≤ 2 ^ n := by have := gV_all (gPE_ok hgr).2 true n; omega
 have hm : n * (c.length + 1) ≤ 1000 := Nat.le_trans (Nat.mul_le_mul hn (show c.length + 1 ≤ 3 by omega)) (by omega)
 have q0 := sct_none (c := c) (thr := thr) hga hgr (n := n) (by omega)
 have q3 := sct_late (c := c) (thr := thr) hga hgr (n := n) (by omega) (by omega)
 have qk := fun k (hk : k < c.length) => sct_hit (thr := thr) hga hgr (n := n) (by omega) hk (by omega)
 have q2 := fun k (hk : c.length < k) (h3 : k < 3) => sct_two (thr := thr) (a := a) (r := r) (n := n) hk h3 (allW (n * (c.length + 1)))
 have b1 := fun i (hi : i ≤ c.length) => sqT_le hzA hzC thr c hi
 have bR : sqL (gV (bN (cW a)) (bN (qD a)) true n) (gV (bN (cW r)) (bN (qD r)) true n) n c.length ≤ 2 ^ (n * (c.length + 1)) := by unfold sqL; exact Nat.sub_le _ _
 rw [hR]
 obtain ⟨gA, hgA⟩ : ∃ g, gV (bN (cW a)) (bN (qD a)) true n = g := ⟨_, rfl⟩
 obtain ⟨gC, hgC⟩ : ∃ g, gV (bN (cW r)) (bN (qD r)) true n = g := ⟨_, rfl⟩
 rw [hgA, hgC] at q0 q3 b1 bR ⊢
 simp only [hgA, hgC] at qk
 obtain ⟨M, hM⟩ : ∃ M, n * (c.length + 1) = M := ⟨_, rfl⟩
 have nz : ∀ (key : ByteArray) x, x ≤ 2 ^ M → notZ (key, dyB x M) = decide (0 < x) := fun key x hx => by
  unfold notZ
  by_cases h0 : x = 0
  ·have e := (dy_eq_zero hx (by omega)).2 h0
   rw [decide_eq_false (fun h => h e), decide_eq_false (by omega)]
  ·have e : dyB x M ≠ ⟨#[48]⟩ := fun e => h0 ((dy_eq_zero hx (by omega)).1 e)
   rw [decide_eq_true e, decide_eq_true (by omega)]
 refine ⟨hq, fun k x hk hx => ?_, ?_⟩
 ·rw [hasM_iff, sortM_mem, sqD_mem]
  have hk4 : k < 4 := by have := (List.getElem?_eq_some_iff.1 hk).1; rwa [qC_length] at this
  rw [qC_get _ _ hk4] at hk
  injection hk with hk
  have h2 : x ≤ 2 ^ M ∧ (kyS k, dyB x (n * (c.length + 1))) ∈ sqW gA gC n thr c c.length := by
   rw [sqW_mem]
   by_cases e0 : k = 0
   ·subst e0
    rw [q0] at hk
    subst hk
    refine ⟨by rw [← hM]; exact b1 _ (Nat.le_refl _), .inr (.inl rfl), ?_⟩
    show dyB _ _ = dyB (cntS gA gC n thr c m1B) _
    rw [cntS_none]
   ·by_cases e3 : k = 3
    ·subst e3
     rw [q3] at hk
     subst hk
     refine ⟨by rw [← hM]; exact bR, .inl rfl, ?_⟩
     show dyB _ _ = dyB (cntS gA gC n thr c lateB) _
     rw [cntS_late]
    ·obtain ⟨j, rfl⟩ : ∃ j, k = j + 1 := ⟨k - 1, by omega⟩
     by_cases hkc : j < c.length
     ·rw [qk j hkc] at hk
      subst hk
      have hy : kyS (j + 1) = numB j := by unfold kyS; rw [if_neg e0, if_neg e3, Nat.add_sub_cancel]
      rw [hy]
      refine ⟨by rw [← hM]; exact b1 _ (by omega), .inr (.inr ⟨j, hkc, rfl⟩), ?_⟩
      show dyB _ _ = dyB (cntS gA gC n thr c (numB j)) _
      rw [cntS_num gA gC n thr c hkc]
     ·rw [q2 (j + 1) (by omega) (by omega)] at hk
      omega
  refine ⟨h2.2, fun e => ?_⟩
  have e' : dyB x M = ⟨#[48]⟩ := by rw [← hM]; exact e
  have := (dy_eq_zero h2.1 (by omega)).1 e'
  omega
 ·have e1 : (sortM (sqD gA gC n thr c)).length = (sqD gA gC n thr c).length := (List.mergeSort_perm _ _).length_eq
  rw [e1]
  have e2 : (sqD gA gC n thr c).length = (sqW gA gC n thr c c.length).countP notZ := by unfold sqD; rw [List.countP_eq_length_filter]
  rw [e2]
  unfold sqW
  rw [List.countP_append, hM]
  have e3 : (sqAll gA gC n thr c c.length).countP notZ = (List.range c.length).countP fun k => decide (0 < sqT gA gC n thr c k) := by
   unfold sqAll
   rw [List.countP_map]
   refine List.countP_congr fun k hk => ?_
   rw [List.mem_range] at hk
   have := b1 k (by omega)
   show notZ _ = true ↔ _
   rw [hM, nz _ _ (by rw [← hM]; omega)]
  rw [e3, List.countP_cons, List.countP_singleton, nz _ _ (by rw [← hM]; exact bR), nz _ _ (by rw [← hM]; exact b1 _ (Nat.le_refl _))]
  unfold fnN
  rw [List.take_of_length_le (by rw [qC_length]; exact Nat.le_refl _)]
  rw [hM] at qk q2 q3 q0
  unfold qC
  rw [List.countP_map]
  rcases hK with hK | hK
  ·have a1 := qk 0 (by omega); have a2 := q2 2 (by omega) (by omega)
   rw [hK] at q0 q3 ⊢
   simp only [List.range_succ, List.range_zero, List.nil_append, List.countP_append, List.countP_singleton, Function.comp, q0, a1, a2, q3]
   simp
   omega
  ·have a1 := qk 0 (by omega); have a2 := qk 1 (by omega)
   rw [hK] at q0 q3 ⊢
   simp only [List.range_succ, List.range_zero, List.nil_append, List.countP_append, List.countP_singleton, Function.comp, q0, a1, a2, q3]
   simp
   omega
open Go.Shelf
theorem sp_ratio (w : World) (a : ByteArray) (ha : a.size ≤ 100000) (hL : Lay w) :
 Calls Tryz.prog 68 #[.string a] w fun e w' => e = .returned (.int .i64 (gPE a)) ∧ Below w.heap.size w w' := by
 have HG := hid (g_One w a ⟨#[]⟩ ha (by decide) hL)
 rw [gE_empty] at HG
 obtain ⟨t, ht⟩ : ∃ t, oT a ⟨#[]⟩ = t := ⟨_, rfl⟩
 obtain ⟨x, hx⟩ : ∃ x, gPE a = x := ⟨_, rfl⟩
 rw [ht, hx] at HG
 rw [hx]
 obtain ⟨d, v, u⟩ := t
 simp only [d3] at HG
 clear ha hL ht hx
 go_enter Tryz.func68, Tryz.ntmps68
 go_wp2_with fail
 refine HG.out.mono ?_; rintro e w1 ⟨rfl, hb1⟩
 go_wp2_with fail
 go_ret
 exact ⟨rfl, hb1.alloc hb1.size _⟩
theorem sp_wild (w : World) (u : Int) : Calls Tryz.prog 92 #[.int .i64 u] w fun e w' => e = .returned (.bool (wildB u)) ∧ w = w' := by
 unfold wildB
 obtain ⟨a, ha⟩ : ∃ a, decide (u < -1125899906842624) = a := ⟨_, rfl⟩
 obtain ⟨b, hb⟩ : ∃ b, decide (1125899906842624 < u) = b := ⟨_, rfl⟩
 rw [ha, hb]
 cases a
 ·go_enter Tryz.func92, Tryz.ntmps92
  go_wp2_with fail
  go_ret
  exact ⟨rfl, rfl⟩
 ·clear hb
  go_enter Tryz.func92, Tryz.ntmps92
  go_wp2_with fail
  go_ret
  exact ⟨rfl, rfl⟩
theorem sp_plus (w : World) (s t : ByteArray) (hs : s.size ≤ 1000000) (ht : t.size ≤ 1000000) (hL : Lay w) :
 Calls Tryz.prog 34 #[.string s, .string t] w fun e w' => e = .returned (.string (op2B (· + ·) s t)) ∧ Below w.heap.size w w' := by
 have H := hid (q_Add w s t hs ht hL)
 obtain ⟨B, hB⟩ : ∃ B, op2B (· + ·) s t = B := ⟨_, rfl⟩
 obtain ⟨E, hE⟩ : ∃ E, op2E (· + ·) s t = E := ⟨_, rfl⟩
 rw [hB, hE] at H
 rw [hB]
 clear hs ht hL hB hE
 go_enter Tryz.func34, Tryz.ntmps34
 go_wp2_with fail
 refine H.out.mono ?_; rintro e w1 ⟨rfl, hb1⟩
 go_wp2_with fail
 go_ret
 exact ⟨rfl, hb1⟩
theorem sp_less (w : World) (s t : ByteArray) (hs : s.size ≤ 1000000) (ht : t.size ≤ 1000000) (hL : Lay w) :
 Calls Tryz.prog 37 #[.string s, .string t] w fun e w' => e = .returned (.string (op2B (· - ·) s t)) ∧ Below w.heap.size w w' := by
 have H := hid (q_Sub w s t hs ht hL)
 obtain ⟨B, hB⟩ : ∃ B, op2B (· - ·) s t = B := ⟨_, rfl⟩
 obtain ⟨E, hE⟩ : ∃ E, op2E (· - ·) s t = E := ⟨_, rfl⟩
 rw [hB, hE] at H
 rw [hB]
 clear hs ht hL hB hE
 go_enter Tryz.func37, Tryz.ntmps37
 go_wp2_with fail
 refine H.out.mono ?_; rintro e w1 ⟨rfl, hb1⟩
 go_wp2_with fail
 go_ret
 exact ⟨rfl, hb1⟩
theorem sp_times (w : World) (s t : ByteArray) (hs : s.size ≤ 1000000) (ht : t.size ≤ 1000000) (hL : Lay w) :
 Calls Tryz.prog 35 #[.string s, .string t] w fun e w' => e = .returned (.string (op2B (· * ·) s t)) ∧ Below w.heap.size w w' := by
 have H := hid (q_Mul w s t hs ht hL)
 obtain ⟨B, hB⟩ : ∃ B, op2B (· * ·) s t = B := ⟨_, rfl⟩
 obtain ⟨E, hE⟩ : ∃ E, op2E (· * ·) s t = E := ⟨_, rfl⟩
 rw [hB, hE] at H
 rw [hB]
 clear hs ht hL hB hE
 go_enter Tryz.func35, Tryz.ntmps35
 go_wp2_with fail
 refine H.out.mono ?_; rintro e w1 ⟨rfl, hb1⟩
 go_wp2_with fail
 go_ret
 exact ⟨rfl, hb1⟩
end Go.Proofs.YtlmnpocifldpmaaGreatDoor
namespace Go.Proofs.YtlmnpocifldpmaaGreatDoor
open Go.RowKit
open Go.Lib (decDigits nDigits)
noncomputable def kz (s : ByteArray) : Option Int := @dite _ (∃ v : Int, s = zB v) (Classical.propDecidable _) (fun h => some (Classical.choose h)) (fun _ => none)
theorem kz_zB (v : Int) : kz (zB v) = some v := by
 unfold kz
 have h : ∃ x : Int, zB v = zB x := ⟨v, rfl⟩
 rw [dif_pos h]
 exact congrArg some (zB_inj (Classical.choose_spec h)).symm
theorem kz_late : kz lateB = none := by
 unfold kz
 rw [dif_neg]
 rintro ⟨v, h⟩
 exact zB_late v (congrArg (fun b : ByteArray => b.data.toList) h.symm)
noncomputable def chS (d : List (ByteArray × ByteArray)) : List Int := d.filterMap fun p => kz p.1
theorem chS_take {d : List (ByteArray × ByteArray)} {i : Nat} {p : ByteArray × ByteArray} (h : d[i]? = some p) : chS (d.take (i + 1)) = chS (d.take i) ++ (kz p.1).toList := by
 unfold chS
 rw [List.take_add_one, h, Option.toList_some, List.filterMap_append]
 congr 1
theorem chS_late {d : List (ByteArray × ByteArray)} {i : Nat} {p : ByteArray × ByteArray} (h : d[i]? = some p) (hp : kz p.1 = none) : chS (d.take (i + 1)) = chS (d.take i) := by
 rw [chS_take h, hp, Option.toList_none, List.append_nil]
theorem chS_num {d : List (ByteArray × ByteArray)} {i : Nat} {p : ByteArray × ByteArray} {v : Int} (h : d[i]? = some p) (hp : kz p.1 = some v) : chS (d.take (i + 1)) = chS (d.take i) ++ [v] := by
 rw [chS_take h, hp]; rfl
theorem chS_length (d : List (ByteArray × ByteArray)) : (chS d).length ≤ d.length := List.length_filterMap_le _ _
theorem chS_glM (g : Int → Nat) (t n : Nat) : (glM g t n).filterMap (fun p => kz p.1) = chA g n := by
 unfold glM chA chV
 rw [List.filterMap_filterMap, List.filter_map, ← List.filterMap_eq_map, ← List.filterMap_eq_filter, List.filterMap_filterMap]
 congr 1
 funext j
 by_cases h : g ((j : Int) - n) = 0
 ·simp [h, Option.guard]
 ·simp [h, Option.guard, kz_zB]
theorem chS_glP (g : Int → Nat) (t n r : Nat) : (chS (sortM (glP g t n r))).Perm (chA g n) := by
 have h : (sortM (glP g t n r)).Perm (glP g t n r) := List.mergeSort_perm _ _
 refine (h.filterMap fun p => kz p.1).trans ?_
 unfold glP
 rw [List.filterMap_append, chS_glM]
 by_cases hr : r = 0
 ·rw [if_pos hr]; simp
 ·rw [if_neg hr]
  simp [kz_late]
theorem runs_glP (g : Int → Nat) (t n r : Nat) : Runs g n (chS (sortM (glP g t n r))) := fun f hf => by
 rw [sV_perm (chS_glP g t n r)]
 exact smV_all hf n
theorem chS_mass {g : Int → Nat} {n r : Nat} {p : ByteArray × ByteArray} (h : p ∈ sortM (glP g (2 ^ n) n r)) : (∃ v : Int, -(n : Int) ≤ v ∧ v ≤ n ∧ p.1 = zB v ∧ kz p.1 = some v ∧ p.2 = dyB (g v) n) ∨ (p.1 = lateB ∧ kz p.1 = none) := by
 rw [sortM_mem, glP_mem] at h
 rcases h with ⟨v, h1, h2, -, rfl⟩ | ⟨-, rfl⟩
 ·exact .inl ⟨v, h1, h2, rfl, kz_zB v, rfl⟩
 ·exact .inr ⟨rfl, kz_late⟩
open Go.Shelf
theorem dec_natS (n : Nat) : Lib.decNat (decDigits n) = some n := by
 have hd := allDig_dec n
 have hne : decDigits n ≠ [] := by
  intro e
  have := Lib.decDigits_length n
  rw [e] at this
  have := nd_pos n
  simp at *
  omega
 unfold Lib.decNat
 rw [if_neg (by simpa using hne), decFrom_dv hd, dv_dec, Nat.mul_zero, Nat.zero_add]
theorem atoi_itoa (v : Int) : Lib.atoi (Lib.itoa v) = some v := by
 unfold Lib.itoa
 split
 ·rename_i h
  unfold Lib.atoi
  show (if ((45 : UInt8) == 45) = true then Option.map (fun (m : Nat) => -(m : Int)) (Lib.decNat (decDigits v.natAbs)) else _) = _
  rw [if_pos (by decide), dec_natS]
  show some (-(v.natAbs : Int)) = some v
  congr 1; omega
 ·rename_i h
  rw [atoi_dec]
  congr 1; omega
theorem b_AtoiZ (w : World) (v : Int) (h1 : -1000 ≤ v) (h2 : v ≤ 1000) :
 Calls Tryz.prog 94 #[.string (zB v)] w fun e w' => e = .returned (.tuple #[.int .i64 v, .nilIface]) ∧ Below w.heap.size w w' := by
 have hs : (zB v).size ≤ 18 := by
  rw [← list_size, zB_list]
  unfold Lib.itoa
  split
  ·have hd := nDigits_le (n := v.natAbs) (k := 4) (by omega) (by omega)
   rw [List.length_cons, Lib.decDigits_length]; omega
  ·have hd := nDigits_le (n := v.toNat) (k := 4) (by omega) (by omega)
   rw [Lib.decDigits_length]; omega
 refine (Tryz.strconv_Atoi (zB v) v hs (by rw [zB_list]; exact atoi_itoa v) w).mono ?_
 rintro e w' ⟨rfl, t, rfl⟩
 exact ⟨rfl, Go.Joins.below_bytesWorld w.heap.size w 5 t (Nat.le_refl _)⟩
end Go.Proofs.YtlmnpocifldpmaaGreatDoor
