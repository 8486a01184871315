/- GeomCoins: the row and the tied card. -/
import Derived.Test.YtikfgddgfddbaaaGreatDoorGc7
import Derived.Test.YtikfgddgfddbaaaGreatDoorTie
import Derived.Test.YtikfgddgfddbaaaGreatDoorCards
import Derived.WalkKit
import Derived.ProofKit
import Derived.OpenShut
import Derived.ShutString
import Derived.Lib.SmallJoins
import Derived.LaidMore
import Derived.Lay
import Derived.Deep.DeepHandedRow
import Derived.JoinedCond
import Derived.SevenTiedAt
import Derived.Shelf.Vars
namespace Go.Proofs.YtikfgddgfddbaaaGreatDoor
open Go.RowKit
open Go.Lib (decDigits nDigits)
set_option linter.unusedVariables false

set_option maxHeartbeats 1000000 in
theorem f_Zero (w : World) : Calls Tryz.prog 170 #[] w fun e w' => RetQ .u64 0 e w' ∧ Below w.heap.size w w' := by
  go_enter Tryz.func170, Tryz.ntmps170
  go_wp2_with fail
  refine (l_Of _ 1 (by omega)).mono ?_; rintro e w1 ⟨⟨v1, rfl, hv1⟩, hb1⟩
  obtain ⟨a3, c3, rfl, _⟩ := hv1.openI
  have HV := hid hv1
  have HB := hid (show Blk w1 w.heap.size #[.bool false, .slice none 0 0, .slice none 0 0] 110 from (Blk.new w _ _).call hb1)
  have d0 := HB.out.cell 0
  have d1 := HB.out.cell 1
  have d2 := HB.out.cell 2
  have e0 := HB.out.free 0
  have e1 := HB.out.free 1
  have e2 := HB.out.free 2
  have HBB := hid hb1
  clear hb1 hv1
  simp at d0 d1 d2
  go_wp2_with fail
  obtain ⟨s1, s2⟩ := set3 HB.out false none a3 0 0 (limbs 1).length c3
  have f0 := s2.cell 0
  have f1 := s2.cell 1
  have f2 := s2.cell 2
  simp at f0 f1 f2
  refine bodyPost_ret (v := .agg #[.bool false, .slice none 0 0, .slice a3 (limbs 1).length c3]) (by simp [results, Tryz.results170, go_sem, f0, f1, f2]) rfl ⟨⟨_, rfl, IsQ.zero_ (s1 _ _ _ (IsN.zero _ _)) (s1 _ _ _ HV.out)⟩, ?_⟩
  exact (((((Below.refl _ _).alloc (Nat.le_refl _) _).trans (HBB.out.mono (by simp))).setCell (Nat.le_refl _) _).setCell (Nat.le_refl _) _).setCell (Nat.le_refl _) _

theorem qmk_red {m : Bool} {n d : Nat} (hn : 0 < n) (hd : 0 < d) {k : IntKind} {w : World} {N D : Value} (hg : Nat.gcd n d = 1) (h1 : IsN k w N n) (h2 : IsN k w D d) : IsQ k w (.agg #[.bool m, N, D]) (qmk m n d) :=
  IsQ.mk' hn hd (by rw [hg, Nat.div_one]; exact h1) (by rw [hg, Nat.div_one]; exact h2)

set_option maxRecDepth 100000 in
set_option maxHeartbeats 2000000 in
theorem f_Make (w : World) (m : Bool) (v u : Value) (n d : Nat) (hn : IsN .u64 w v n) (hd : IsN .u64 w u d) (h0 : 0 < d) (hln : (limbs n).length ≤ 1000000) (hld : (limbs d).length ≤ 1000000) :
    Calls Tryz.prog 130 #[.bool m, v, u] w fun e w' => RetQ .u64 (qmk m n d) e w' ∧ Below w.heap.size w w' := by
  have HN := hid hn; have HD := hid hd
  obtain ⟨a1, c1, rfl, _⟩ := hn.openI
  obtain ⟨a2, c2, rfl, _⟩ := hd.openI
  obtain ⟨k1, hk1⟩ : ∃ k, (limbs n).length = k := ⟨_, rfl⟩
  obtain ⟨k2, hk2⟩ : ∃ k, (limbs d).length = k := ⟨_, rfl⟩
  have LN := hid hln; have LD := hid hld; have H0 := hid h0
  rw [hk1] at HN ⊢
  rw [hk2] at HD ⊢
  have b0 := hid ((Below.refl w.heap.size w).alloc (Nat.le_refl _) (.cells #[.bool false, .slice none 0 0, .slice none 0 0] 110))
  have x0 := hid (Blk.new w #[.bool false, .slice none 0 0, .slice none 0 0] 110)
  have N0 := hid (HN.out.call b0.out); have D0 := hid (HD.out.call b0.out)
  clear hn hd hln hld h0 hk1 hk2
  rcases Nat.eq_zero_or_pos n with rfl | hp
  · have hq := hid (qmk_zero m d)
    rw [hq.out]
    have hz : isZ 0 = true := rfl
    go_enter Tryz.func130, Tryz.ntmps130
    go_wp2_with fail
    refine (l_Zero _ _ _ N0.out).mono ?_; rintro e w1 ⟨rfl, rfl⟩
    rw [hz]
    clear hz
    go_wp2_with fail
    refine (f_Zero _).mono ?_; rintro e w1 ⟨⟨v1, rfl, hv1⟩, hb1⟩
    obtain ⟨M, D, rfl, h2, h3⟩ := hv1.ex
    obtain ⟨a3, c3, rfl, _⟩ := h2.openI
    obtain ⟨a4, c4, rfl, _⟩ := h3.openI
    have hm : decide ((0 : Rat).num < 0) = false := rfl
    rw [hm]
    have HB := hid (x0.out.call hb1)
    have BB := hid (bnext b0.out hb1)
    have d0 := HB.out.cell 0
    have d1 := HB.out.cell 1
    have d2 := HB.out.cell 2
    have e0 := HB.out.free 0
    have e1 := HB.out.free 1
    have e2 := HB.out.free 2
    have H2 := hid h2; have H3 := hid h3
    clear hb1 hv1 h2 h3 hm
    simp at d0 d1 d2
    obtain ⟨l1, hl1⟩ : ∃ k, (limbs (0 : Rat).num.natAbs).length = k := ⟨_, rfl⟩
    obtain ⟨l2, hl2⟩ : ∃ k, (limbs (0 : Rat).den).length = k := ⟨_, rfl⟩
    rw [hl1] at H2 ⊢
    rw [hl2] at H3 ⊢
    clear hl1 hl2
    go_wp2_with fail
    obtain ⟨s1, s2⟩ := set3 HB.out false a3 a4 l1 c3 l2 c4
    have f0 := s2.cell 0
    have f1 := s2.cell 1
    have f2 := s2.cell 2
    simp at f0 f1 f2
    refine bodyPost_ret (v := .agg #[.bool false, .slice a3 l1 c3, .slice a4 l2 c4]) (by simp [results, Tryz.results130, go_sem, f0, f1, f2]) rfl ⟨⟨_, rfl, ⟨_, _, rfl, s1 _ _ _ H2.out, s1 _ _ _ H3.out⟩⟩, ?_⟩
    exact ((BB.out.setCell (Nat.le_refl _) _).setCell (Nat.le_refl _) _).setCell (Nat.le_refl _) _
  · have hz : isZ n = false := by unfold isZ; simpa using (by omega : n ≠ 0)
    have HP := hid hp
    clear hp
    by_cases h1 : d = 1
    · have ho : isO d = true := isO_iff.2 h1
      have HG := hid (show Nat.gcd n d = 1 by rw [h1, Nat.gcd_one_right])
      clear h1
      go_enter Tryz.func130, Tryz.ntmps130
      go_wp2_with fail
      refine (l_Zero _ _ _ N0.out).mono ?_; rintro e w1 ⟨rfl, rfl⟩
      rw [hz]
      clear hz
      go_wp2_with fail
      refine (l_One _ _ _ D0.out).mono ?_; rintro e w1 ⟨rfl, rfl⟩
      rw [ho]
      clear ho
      go_wp2_with fail
      have hB := Blk.new w #[.bool m, .slice a1 k1 c1, .slice a2 k2 c2] 110
      have f0 := hB.cell 0
      have f1 := hB.cell 1
      have f2 := hB.cell 2
      simp at f0 f1 f2
      have b1 := (Below.refl w.heap.size w).alloc (Nat.le_refl _) (.cells #[.bool m, .slice a1 k1 c1, .slice a2 k2 c2] 110)
      refine bodyPost_ret (v := .agg #[.bool m, .slice a1 k1 c1, .slice a2 k2 c2]) (by simp [results, Tryz.results130, go_sem]) rfl ⟨⟨_, rfl, qmk_red HP.out H0.out HG.out (HN.out.call b1) (HD.out.call b1)⟩, b1⟩
    · have ho : isO d = false := by unfold isO; simpa using h1
      obtain ⟨g, hg⟩ : ∃ g, Nat.gcd n d = g := ⟨_, rfl⟩
      have hgp : 0 < g := hg ▸ Nat.gcd_pos_of_pos_left d HP.out
      have HG := hid hg; have HGP := hid hgp
      clear h1 hg hgp
      go_enter Tryz.func130, Tryz.ntmps130
      go_wp2_with fail
      refine (l_Zero _ _ _ N0.out).mono ?_; rintro e w1 ⟨rfl, rfl⟩
      rw [hz]
      clear hz
      go_wp2_with fail
      refine (l_One _ _ _ D0.out).mono ?_; rintro e w1 ⟨rfl, rfl⟩
      rw [ho]
      clear ho
      go_wp2_with fail
      refine (l_Gcd _ _ _ _ _ N0.out D0.out LN.out LD.out).mono ?_
      rintro e w1 ⟨⟨v1, rfl, hv1⟩, hb1⟩
      rw [HG.out] at hv1
      have x1 := hid (x0.out.call hb1)
      have b1 := hid (bnext b0.out hb1)
      have N1 := hid (N0.out.call hb1); have D1 := hid (D0.out.call hb1); have G1 := hid hv1
      clear hb1 hv1
      obtain ⟨a5, c5, rfl, _⟩ := G1.out.openI
      obtain ⟨k5, hk5⟩ : ∃ k, (limbs g).length = k := ⟨_, rfl⟩
      rw [hk5] at G1 ⊢
      clear hk5
      go_wp2_with fail
      refine (l_One _ _ _ G1.out).mono ?_; rintro e w2 ⟨rfl, rfl⟩
      by_cases hg1 : g = 1
      · have ho : isO g = true := isO_iff.2 hg1
        have HG1 := hid (show Nat.gcd n d = 1 by rw [HG.out, hg1])
        rw [ho]
        have d0 := x1.out.cell 0
        have d1 := x1.out.cell 1
        have d2 := x1.out.cell 2
        have e0 := x1.out.free 0
        have e1 := x1.out.free 1
        have e2 := x1.out.free 2
        simp at d0 d1 d2
        clear ho hg1
        go_wp2_with fail
        obtain ⟨s1, s2⟩ := set3 x1.out m a1 a2 k1 c1 k2 c2
        have f0 := s2.cell 0
        have f1 := s2.cell 1
        have f2 := s2.cell 2
        simp at f0 f1 f2
        refine bodyPost_ret (v := .agg #[.bool m, .slice a1 k1 c1, .slice a2 k2 c2]) (by simp [results, Tryz.results130, go_sem, f0, f1, f2]) rfl ⟨⟨_, rfl, qmk_red HP.out H0.out HG1.out (s1 _ _ _ N1.out) (s1 _ _ _ D1.out)⟩, ?_⟩
        exact ((b1.out.setCell (Nat.le_refl _) _).setCell (Nat.le_refl _) _).setCell (Nat.le_refl _) _
      · have ho : isO g = false := by unfold isO; simpa using hg1
        rw [ho]
        clear ho hg1
        go_wp2_with fail
        refine (l_DivMod _ _ _ n g N1.out G1.out HGP.out LN.out).mono ?_
        rintro e w2 ⟨⟨v2, v3, rfl, hv2, -⟩, hb2⟩
        have x2 := hid (x1.out.call hb2); have b2 := hid (bnext b1.out hb2); have D2 := hid (D1.out.call hb2); have G2 := hid (G1.out.call hb2); have V2 := hid hv2
        clear hb2 hv2
        go_wp2_with fail
        refine (l_DivMod _ _ _ d g D2.out G2.out HGP.out LD.out).mono ?_
        rintro e w3 ⟨⟨v4, v5, rfl, hv4, -⟩, hb3⟩
        have x3 := hid (x2.out.call hb3); have b3 := hid (bnext b2.out hb3); have W2 := hid (V2.out.call hb3); have W4 := hid hv4
        clear hb3 hv4
        obtain ⟨a6, c6, rfl, _⟩ := W2.out.openI
        obtain ⟨a7, c7, rfl, _⟩ := W4.out.openI
        have d0 := x3.out.cell 0
        have d1 := x3.out.cell 1
        have d2 := x3.out.cell 2
        have e0 := x3.out.free 0
        have e1 := x3.out.free 1
        have e2 := x3.out.free 2
        simp at d0 d1 d2
        go_wp2_with fail
        obtain ⟨s1, s2⟩ := set3 x3.out m a6 a7 (limbs (n / g)).length c6 (limbs (d / g)).length c7
        have f0 := s2.cell 0
        have f1 := s2.cell 1
        have f2 := s2.cell 2
        simp at f0 f1 f2
        refine bodyPost_ret (v := .agg #[.bool m, .slice a6 (limbs (n / g)).length c6, .slice a7 (limbs (d / g)).length c7]) (by simp [results, Tryz.results130, go_sem, f0, f1, f2]) rfl ⟨⟨_, rfl, IsQ.mk' HP.out H0.out (HG.out ▸ s1 _ _ _ W2.out) (HG.out ▸ s1 _ _ _ W4.out)⟩, ?_⟩
        exact ((b3.out.setCell (Nat.le_refl _) _).setCell (Nat.le_refl _) _).setCell (Nat.le_refl _) _

theorem f_Inv (w : World) (v : Value) (q : Rat) (h : IsQ .u64 w v q) (h0 : q ≠ 0) :
    Calls Tryz.prog 110 #[v] w fun e w' => RetQ .u64 q⁻¹ e w' ∧ Below w.heap.size w w' := by
  obtain ⟨N, D, rfl, hn, hd⟩ := h.ex
  obtain ⟨m, hm⟩ : ∃ m, decide (q.num < 0) = m := ⟨_, rfl⟩
  have HN := hid hn; have HD := hid hd; have HM := hid hm; have H0 := hid h0
  rw [hm]
  obtain ⟨a1, c1, rfl, _⟩ := hn.openI
  obtain ⟨a2, c2, rfl, _⟩ := hd.openI
  clear hn hd hm h0 h
  go_enter Tryz.func110, Tryz.ntmps110
  go_wp2_with fail
  obtain ⟨p1, p2, p3⟩ := inv_num H0.out
  have B := ((Below.refl w.heap.size w).alloc (Nat.le_refl _) (.cells #[.bool m, .slice a1 (limbs q.num.natAbs).length c1, .slice a2 (limbs q.den).length c2] 110)).alloc (by simp) (.cells #[.bool m, .slice a2 (limbs q.den).length c2, .slice a1 (limbs q.num.natAbs).length c1] 110)
  refine bodyPost_ret (v := .agg #[.bool m, .slice a2 (limbs q.den).length c2, .slice a1 (limbs q.num.natAbs).length c1]) (by simp [results, Tryz.results110, go_sem]) rfl ⟨⟨_, rfl, ⟨_, _, rfl.trans ?_, by rw [p2]; exact HD.out.call B, by rw [p3]; exact HN.out.call B⟩⟩, B⟩
  rw [p1, HM.out]

/-- The sign of a number. -/
def sgQ (q : Rat) : Int := if q.num = 0 then 0 else if q.num < 0 then -1 else 1

theorem sgQ_zero {q : Rat} (h : q.num = 0) : sgQ q = 0 := if_pos h
theorem sgQ_neg {q : Rat} (h : ¬ q.num = 0) (h2 : q.num < 0) : sgQ q = -1 := by rw [sgQ, if_neg h, if_pos h2]
theorem sgQ_pos {q : Rat} (h : ¬ q.num = 0) (h2 : ¬ q.num < 0) : sgQ q = 1 := by rw [sgQ, if_neg h, if_neg h2]

theorem f_Sign (w : World) (v : Value) (q : Rat) (h : IsQ .u64 w v q) :
    Calls Tryz.prog 109 #[v] w fun e w' => e = .returned (.int .i64 (sgQ q)) ∧ Below w.heap.size w w' := by
  obtain ⟨N, D, rfl, hn, hd⟩ := h.ex
  obtain ⟨m, hm⟩ : ∃ m, decide (q.num < 0) = m := ⟨_, rfl⟩
  have HN := hid hn; have HM := hid hm
  rw [hm]
  obtain ⟨a1, c1, rfl, _⟩ := hn.openI
  obtain ⟨a2, c2, rfl, _⟩ := hd.openI
  obtain ⟨k1, hk1⟩ : ∃ k, (limbs q.num.natAbs).length = k := ⟨_, rfl⟩
  obtain ⟨k2, hk2⟩ : ∃ k, (limbs q.den).length = k := ⟨_, rfl⟩
  rw [hk1] at HN ⊢
  rw [hk2]
  have b0 := hid ((Below.refl w.heap.size w).alloc (Nat.le_refl _) (.cells #[.bool m, .slice a1 k1 c1, .slice a2 k2 c2] 110))
  have N0 := hid (HN.out.call b0.out)
  clear hn hd hm h hk1 hk2
  go_enter Tryz.func109, Tryz.ntmps109
  go_wp2_with fail
  refine (l_Zero _ _ _ N0.out).mono ?_; rintro e w1 ⟨rfl, rfl⟩
  by_cases hz : q.num = 0
  · have h1 : isZ q.num.natAbs = true := isZ_iff.2 (by omega)
    rw [h1]
    have HZ := hid hz
    clear h1 hz
    go_wp2_with fail
    go_ret
    exact ⟨ret_int (sgQ_zero HZ.out).symm, b0.out⟩
  · have h1 : isZ q.num.natAbs = false := decide_eq_false (by omega)
    rw [h1]
    have HZ := hid hz
    clear h1 hz
    cases m
    · go_wp2_with fail
      go_ret
      exact ⟨ret_int (sgQ_pos HZ.out (of_decide_eq_false HM.out)).symm, b0.out⟩
    · go_wp2_with fail
      go_ret
      exact ⟨ret_int (sgQ_neg HZ.out (of_decide_eq_true HM.out)).symm, b0.out⟩

theorem neg_partsU {q : Rat} {m : Bool} (hm : decide (q.num < 0) = m) : decide ((-q).num < 0) = (!m && !isZ q.num.natAbs) ∧ (-q).num.natAbs = q.num.natAbs ∧ (-q).den = q.den := by
  refine ⟨?_, by rw [Rat.neg_num, Int.natAbs_neg], Rat.neg_den q⟩
  rw [Rat.neg_num, ← hm, Bool.eq_iff_iff]
  unfold isZ
  simp only [Bool.and_eq_true, Bool.not_eq_true', decide_eq_true_eq, decide_eq_false_iff_not]
  omega

set_option maxRecDepth 100000 in
set_option maxHeartbeats 1000000 in
theorem f_Neg (w : World) (v : Value) (q : Rat) (h : IsQ .u64 w v q) :
    Calls Tryz.prog 164 #[v] w fun e w' => RetQ .u64 (-q) e w' ∧ Below w.heap.size w w' := by
  obtain ⟨N, D, rfl, hn, hd⟩ := h.ex
  obtain ⟨m, hm⟩ : ∃ m, decide (q.num < 0) = m := ⟨_, rfl⟩
  have HN := hid hn; have HD := hid hd; have HP := hid (neg_partsU hm)
  rw [hm]
  obtain ⟨a1, c1, rfl, _⟩ := hn.openI
  obtain ⟨a2, c2, rfl, _⟩ := hd.openI
  obtain ⟨k1, hk1⟩ : ∃ k, (limbs q.num.natAbs).length = k := ⟨_, rfl⟩
  obtain ⟨k2, hk2⟩ : ∃ k, (limbs q.den).length = k := ⟨_, rfl⟩
  rw [hk1] at HN ⊢
  rw [hk2] at HD ⊢
  have HZ := fun W h => hid (l_Zero W (.slice a1 k1 c1) q.num.natAbs h)
  obtain ⟨z, hz⟩ : ∃ z, isZ q.num.natAbs = z := ⟨_, rfl⟩
  rw [hz] at HP HZ
  clear hn hd hm h hk1 hk2 hz
  have b1 := hid (((Below.refl w.heap.size w).alloc (Nat.le_refl _) (.cells #[.bool m, .slice a1 k1 c1, .slice a2 k2 c2] 110)).alloc (by simp) (.cells #[.bool false, .slice none 0 0, .slice none 0 0] 110))
  cases m
  · go_enter Tryz.func164, Tryz.ntmps164
    go_wp2_with fail
    refine region_tail 14 (by kernel_rfl) (by kernel_rfl) ?_
    simp only [List.take_succ_cons, List.take_zero, List.drop_succ_cons, List.drop_zero]
    iterate 6 still_step
    still_call ((HZ _ (HN.out.call b1.out.drew)).out.mono fun _ _ h => ⟨h.1, h.2.symm⟩)
    iterate 7 still_step
    refine wpStill_nil ?_
    go_wp2_with fail
    have b2 := (((Below.refl w.heap.size w).alloc (Nat.le_refl _) (.cells #[.bool false, .slice a1 k1 c1, .slice a2 k2 c2] 110)).alloc (by simp) (.cells #[.bool (!z), .slice a1 k1 c1, .slice a2 k2 c2] 110)).drew
    obtain ⟨p1, p2, p3⟩ := HP.out
    refine bodyPost_ret (v := .agg #[.bool (!z), .slice a1 k1 c1, .slice a2 k2 c2]) (by simp [results, Tryz.results164, go_sem]) rfl ⟨⟨_, rfl, ⟨.slice a1 k1 c1, .slice a2 k2 c2, ?_, ?_, ?_⟩⟩, b2⟩
    · rw [p1]; rfl
    · rw [p2]; exact HN.out.call b2
    · rw [p3]; exact HD.out.call b2
  · go_enter Tryz.func164, Tryz.ntmps164
    go_wp2_with fail
    refine region_tail 14 (by kernel_rfl) (by kernel_rfl) ?_
    simp only [List.take_succ_cons, List.take_zero, List.drop_succ_cons, List.drop_zero]
    iterate 14 still_step
    refine wpStill_nil ?_
    go_wp2_with fail
    have b2 := (((Below.refl w.heap.size w).alloc (Nat.le_refl _) (.cells #[.bool true, .slice a1 k1 c1, .slice a2 k2 c2] 110)).alloc (by simp) (.cells #[.bool false, .slice a1 k1 c1, .slice a2 k2 c2] 110)).drew
    obtain ⟨p1, p2, p3⟩ := HP.out
    refine bodyPost_ret (v := .agg #[.bool false, .slice a1 k1 c1, .slice a2 k2 c2]) (by simp [results, Tryz.results164, go_sem]) rfl ⟨⟨_, rfl, ⟨.slice a1 k1 c1, .slice a2 k2 c2, ?_, ?_, ?_⟩⟩, b2⟩
    · rw [p1]; rfl
    · rw [p2]; exact HN.out.call b2
    · rw [p3]; exact HD.out.call b2
end Go.Proofs.YtikfgddgfddbaaaGreatDoor

/- Walks: the program's fractions: Num. -/
namespace Go.Proofs.YtikfgddgfddbaaaGreatDoor
open Go.RowKit
open Go.Lib (decDigits nDigits)
set_option linter.unusedVariables false
set_option linter.unusedSimpArgs false

theorem outB_ov {q : Rat} (h : ovQ q) : outB q = ⟨#[]⟩ := if_pos h
theorem outB_ok {q : Rat} (h : ¬ ovQ q) : outB q = txQ q := if_neg h
theorem outE_ov {q : Rat} (h : ovQ q) : outE q = 5 := if_pos h
theorem outE_ok {q : Rat} (h : ¬ ovQ q) : outE q = 0 := if_neg h

theorem ba_append (a b : ByteArray) : (a ++ b).data.toList = a.data.toList ++ b.data.toList := by simp

theorem txB_ff (n : Nat) : txB false n 1 = numB n := by apply ba_ext; simp [txB, numB]
theorem txB_tf (n : Nat) : txB true n 1 = ⟨#[45]⟩ ++ numB n := by apply ba_ext; rw [ba_append, txB_list, numB_list]; simp
theorem txB_ft (n d : Nat) (h : d ≠ 1) : txB false n d = numB n ++ (⟨#[47]⟩ ++ numB d) := by apply ba_ext; rw [ba_append, ba_append, txB_list, numB_list, numB_list, if_neg h]; simp
theorem txB_tt (n d : Nat) (h : d ≠ 1) : txB true n d = ⟨#[45]⟩ ++ numB n ++ (⟨#[47]⟩ ++ numB d) := by apply ba_ext; rw [ba_append, ba_append, ba_append, txB_list, numB_list, numB_list, if_neg h]; simp

set_option maxRecDepth 100000 in
set_option maxHeartbeats 2000000 in
theorem f_Num (w : World) (v : Value) (q : Rat) (h : IsQ .u64 w v q) (h1 : (limbs q.num.natAbs).length ≤ 1000000) (h2 : (limbs q.den).length ≤ 1000000) (hL : Lay w) :
    Calls Tryz.prog 112 #[v] w fun e w' => e = .returned (.tuple #[.string (outB q), .int .i64 (outE q)]) ∧ Below w.heap.size w w' := by
  obtain ⟨N, D, rfl, hn, hd⟩ := h.ex
  obtain ⟨m, hm⟩ : ∃ m, decide (q.num < 0) = m := ⟨_, rfl⟩
  have HN := hid hn; have HD := hid hd; have HM := hid hm; have HL := hid hL; have L1 := hid h1; have L2 := hid h2
  rw [hm]
  obtain ⟨a1, c1, rfl, _⟩ := hn.openI
  obtain ⟨a2, c2, rfl, _⟩ := hd.openI
  obtain ⟨k1, hk1⟩ : ∃ k, (limbs q.num.natAbs).length = k := ⟨_, rfl⟩
  obtain ⟨k2, hk2⟩ : ∃ k, (limbs q.den).length = k := ⟨_, rfl⟩
  rw [hk1] at HN ⊢
  rw [hk2] at HD ⊢
  have b0 := hid ((Below.refl w.heap.size w).alloc (Nat.le_refl _) (.cells #[.bool m, .slice a1 k1 c1, .slice a2 k2 c2] 110))
  have x0 := hid (Blk.new w #[.bool m, .slice a1 k1 c1, .slice a2 k2 c2] 110)
  have N0 := hid (HN.out.call b0.out); have D0 := hid (HD.out.call b0.out)
  clear hn hd hm h hk1 hk2 hL h1 h2
  by_cases o1 : 4000 < nDigits q.num.natAbs
  · have ho : ovQ q := .inl o1
    rw [outB_ov ho, outE_ov ho]
    have q0 : decide ((4000 : Int) < (nDigits q.num.natAbs : Nat)) = true := by simp; omega
    clear o1 ho
    go_enter Tryz.func112, Tryz.ntmps112
    go_wp2_with fail
    refine (l_Digits _ _ _ N0.out (HL.out.call b0.out) L1.out).mono ?_; rintro e w1 ⟨rfl, hb1⟩
    have b1 := hid (bnext b0.out hb1); clear hb1
    go_wp2_with fail
    go_ret2
    exact ⟨rfl, b1.out⟩
  · have q0 : decide ((4000 : Int) < (nDigits q.num.natAbs : Nat)) = false := by simp; omega
    by_cases o2 : 4000 < nDigits q.den
    · have ho : ovQ q := .inr o2
      rw [outB_ov ho, outE_ov ho]
      have q1 : decide ((4000 : Int) < (nDigits q.den : Nat)) = true := by simp; omega
      clear o1 ho o2
      go_enter Tryz.func112, Tryz.ntmps112
      go_wp2_with fail
      refine (l_Digits _ _ _ N0.out (HL.out.call b0.out) L1.out).mono ?_; rintro e w1 ⟨rfl, hb1⟩
      have b1 := hid (bnext b0.out hb1); have D1 := hid (D0.out.call hb1)
      have x1 := x0.out.call hb1
      have r2 := x1.cell 2
      simp at r2
      clear hb1 x1
      go_wp2_with fail
      refine (l_Digits _ _ _ D1.out (HL.out.call b1.out) L2.out).mono ?_; rintro e w2 ⟨rfl, hb2⟩
      have b2 := hid (bnext b1.out hb2); clear hb2 r2
      go_wp2_with fail
      go_ret2
      exact ⟨rfl, b2.out⟩
    · have ho : ¬ ovQ q := fun h => h.elim o1 o2
      rw [outB_ok ho, outE_ok ho]
      have q1 : decide ((4000 : Int) < (nDigits q.den : Nat)) = false := by simp; omega
      obtain ⟨z, hz⟩ : ∃ z, isO q.den = z := ⟨_, rfl⟩
      have HO := fun W h => hid (l_One W (.slice a2 k2 c2) q.den h)
      rw [hz] at HO
      have HT : Hid (txQ q = txB m q.num.natAbs q.den) := by rw [← HM.out]; rfl
      have HZ := hid hz
      rw [HT.out]
      obtain ⟨T, hT⟩ : ∃ T, txB m q.num.natAbs q.den = T := ⟨_, rfl⟩
      have HTT := hid hT
      rw [hT]
      have HS1 := fun W hv hL => hid (l_String W (.slice a1 k1 c1) q.num.natAbs hv hL L1.out)
      have HS2 := fun W hv hL => hid (l_String W (.slice a2 k2 c2) q.den hv hL L2.out)
      have en : (⟨(Lib.decDigits q.num.natAbs).toArray⟩ : ByteArray) = numB q.num.natAbs := rfl
      have ed : (⟨(Lib.decDigits q.den).toArray⟩ : ByteArray) = numB q.den := rfl
      rw [en] at HS1
      rw [ed] at HS2
      obtain ⟨sn, hsn⟩ : ∃ s, numB q.num.natAbs = s := ⟨_, rfl⟩
      obtain ⟨sd, hsd⟩ : ∃ s, numB q.den = s := ⟨_, rfl⟩
      rw [hsn] at HS1
      rw [hsd] at HS2
      have HSN := hid hsn; have HSD := hid hsd
      have hs1 : sn.size ≤ 4000 := by rw [← hsn, numB_size]; omega
      have hs2 : sd.size ≤ 4000 := by rw [← hsd, numB_size]; omega
      clear o1 ho o2 hT hz en ed hsn hsd
      go_enter Tryz.func112, Tryz.ntmps112
      go_wp2_with fail
      refine (l_Digits _ _ _ N0.out (HL.out.call b0.out) L1.out).mono ?_; rintro e w1 ⟨rfl, hb1⟩
      have b1 := hid (bnext b0.out hb1); have D1 := hid (D0.out.call hb1); have x1 := hid (x0.out.call hb1); have N1 := hid (N0.out.call hb1)
      have r2 := x1.out.cell 2
      simp at r2
      clear hb1
      go_wp2_with fail
      refine (l_Digits _ _ _ D1.out (HL.out.call b1.out) L2.out).mono ?_; rintro e w2 ⟨rfl, hb2⟩
      have b2 := hid (bnext b1.out hb2); have D2 := hid (D1.out.call hb2); have x2 := hid (x1.out.call hb2); have N2 := hid (N1.out.call hb2)
      have r1 := x2.out.cell 1
      simp at r1
      clear hb2 r2
      go_wp2_with fail
      refine (HS1 _ N2.out (HL.out.call b2.out)).out.mono ?_; rintro e w3 ⟨rfl, hb3⟩
      have b3 := hid (bnext b2.out hb3); have D3 := hid (D2.out.call hb3); have x3 := hid (x2.out.call hb3)
      have r0 := x3.out.cell 0
      have r2 := x3.out.cell 2
      simp at r0 r2
      clear hb3 r1 HS1
      cases m
      · go_wp2_with fail
        refine (HO _ D3.out).out.mono ?_; rintro e w4 ⟨rfl, rfl⟩
        cases z
        · go_wp2_with fail
          refine (HS2 _ D3.out (HL.out.call b3.out)).out.mono ?_; rintro e w5 ⟨rfl, hb5⟩
          have b5 := hid (bnext b3.out hb5); clear hb5 r0 r2
          go_wp2_with fail
          go_ret2
          have hTe : T = sn ++ (⟨#[47]⟩ ++ sd) := by rw [← HTT.out, txB_ft _ _ (of_decide_eq_false HZ.out), HSN.out, HSD.out]
          exact ⟨by rw [hTe]; rfl, b5.out⟩
        · go_wp2_with fail
          go_ret2
          have hTe : T = sn := by rw [← HTT.out, isO_iff.1 HZ.out, txB_ff, HSN.out]
          exact ⟨by rw [hTe]; rfl, b3.out⟩
      · go_wp2_with fail
        refine (HO _ D3.out).out.mono ?_; rintro e w4 ⟨rfl, rfl⟩
        cases z
        · go_wp2_with fail
          refine (HS2 _ D3.out (HL.out.call b3.out)).out.mono ?_; rintro e w5 ⟨rfl, hb5⟩
          have b5 := hid (bnext b3.out hb5); clear hb5 r0 r2
          go_wp2_with fail
          go_ret2
          have hTe : T = ⟨#[45]⟩ ++ sn ++ (⟨#[47]⟩ ++ sd) := by rw [← HTT.out, txB_tt _ _ (of_decide_eq_false HZ.out), HSN.out, HSD.out]
          exact ⟨by rw [hTe]; rfl, b5.out⟩
        · go_wp2_with fail
          go_ret2
          have hTe : T = ⟨#[45]⟩ ++ sn := by rw [← HTT.out, isO_iff.1 HZ.out, txB_tf, HSN.out]
          exact ⟨by rw [hTe]; rfl, b3.out⟩
end Go.Proofs.YtikfgddgfddbaaaGreatDoor

/- Walks: the program's rat.Make. -/
namespace Go.Proofs.YtikfgddgfddbaaaGreatDoor
open Go.RowKit
open Go.Lib (decDigits nDigits)
set_option linter.unusedVariables false
set_option linter.unusedSimpArgs false

/-- What Make gives back: the text, the error. -/
def mkE (n d : ByteArray) : Int := if iB n = false then 3 else if 4000 < (iD n).size then 5 else if errN d.data.toList ≠ 0 then errN d.data.toList else if d = ⟨#[48]⟩ then 6 else outE (qmk (iM n) (bN (iD n)) (bN d))
def mkB (n d : ByteArray) : ByteArray := if iB n = false then ⟨#[]⟩ else if 4000 < (iD n).size then ⟨#[]⟩ else if errN d.data.toList ≠ 0 then ⟨#[]⟩ else if d = ⟨#[48]⟩ then ⟨#[]⟩ else outB (qmk (iM n) (bN (iD n)) (bN d))

theorem qmk_len {m : Bool} {n d L : Nat} (hd : 0 < d) (h1 : (limbs n).length ≤ L) (h2 : (limbs d).length ≤ L) : (limbs (qmk m n d).num.natAbs).length ≤ L ∧ (limbs (qmk m n d).den).length ≤ L := by
  rw [qmk_num hd, qmk_den hd, sgn_natAbs]
  exact ⟨Nat.le_trans (limbs_length_mono (Nat.div_le_self _ _)) h1, Nat.le_trans (limbs_length_mono (Nat.div_le_self _ _)) h2⟩

set_option maxRecDepth 100000 in
set_option maxHeartbeats 2000000 in
theorem q_Make (w : World) (n d : ByteArray) (hn : n.size ≤ 1000000) (hd : d.size ≤ 1000000) (hL : Lay w) :
    Calls Tryz.prog 88 #[.string n, .string d] w fun e w' => e = .returned (.tuple #[.string (mkB n d), .int .i64 (mkE n d)]) ∧ Below w.heap.size w w' := by
  have HL := hid hL
  have hz := iD_size n
  have HI := fun V => hid (f_Integer V n (by omega))
  have HC := fun V => hid (n_Check V d (by omega))
  have HP1 := fun V h => hid (l_Parse V (iD n) h (by omega))
  have HP2 := fun V h => hid (l_Parse V d h hd)
  cases hb : iB n
  · have e1 : mkB n d = ⟨#[]⟩ := if_pos hb
    have e2 : mkE n d = 3 := if_pos hb
    rw [e1, e2]
    rw [hb] at HI
    clear e1 e2 hb hz HP1 HP2 hn hd hL
    go_enter Tryz.func88, Tryz.ntmps88
    go_wp2_with fail
    refine (HI _).out.mono ?_; rintro e w1 ⟨rfl, hb1⟩
    have b1 := hid hb1; clear hb1
    go_wp2_with fail
    go_ret2
    exact ⟨rfl, b1.out⟩
  · have nb : ¬ iB n = false := by simp [hb]
    by_cases h1 : 4000 < (iD n).size
    · have e1 : mkB n d = ⟨#[]⟩ := by rw [mkB, if_neg nb, if_pos h1]
      have e2 : mkE n d = 5 := by rw [mkE, if_neg nb, if_pos h1]
      have q0 : decide ((4000 : Int) < ((iD n).size : Nat)) = true := by simp; omega
      rw [e1, e2]
      rw [hb] at HI
      clear e1 e2 hb hz HP1 HP2 hn hd hL h1 nb
      go_enter Tryz.func88, Tryz.ntmps88
      go_wp2_with fail
      refine (HI _).out.mono ?_; rintro e w1 ⟨rfl, hb1⟩
      have b1 := hid hb1; clear hb1
      go_wp2_with fail
      go_ret2
      exact ⟨rfl, b1.out⟩
    · have q0 : decide ((4000 : Int) < ((iD n).size : Nat)) = false := by simp; omega
      by_cases h2 : errN d.data.toList = 0
      · have nc : ¬ errN d.data.toList ≠ 0 := fun h => h h2
        by_cases h3 : d = ⟨#[48]⟩
        · have e1 : mkB n d = ⟨#[]⟩ := by rw [mkB, if_neg nb, if_neg h1, if_neg nc, if_pos h3]
          have e2 : mkE n d = 6 := by rw [mkE, if_neg nb, if_neg h1, if_neg nc, if_pos h3]
          rw [e1, e2]
          rw [hb] at HI
          rw [h2] at HC
          clear e1 e2 hb hz HP1 HP2 hn hd hL h1 nb nc h2
          subst h3
          go_enter Tryz.func88, Tryz.ntmps88
          go_wp2_with fail
          refine (HI _).out.mono ?_; rintro e w1 ⟨rfl, hb1⟩
          have b1 := hid hb1; clear hb1
          go_wp2_with fail
          refine (HC _).out.mono ?_; rintro e w2 ⟨rfl, hb2⟩
          have b2 := hid (bnext b1.out hb2); clear hb2
          go_wp2_with fail
          go_ret2
          exact ⟨rfl, b2.out⟩
        · have e1 : mkB n d = outB (qmk (iM n) (bN (iD n)) (bN d)) := by rw [mkB, if_neg nb, if_neg h1, if_neg nc, if_neg h3]
          have e2 : mkE n d = outE (qmk (iM n) (bN (iD n)) (bN d)) := by rw [mkE, if_neg nb, if_neg h1, if_neg nc, if_neg h3]
          rw [e1, e2]
          have d1 := fB_dig (iB_form hb)
          obtain ⟨d2, d3, d4⟩ := errN_dig h2
          have hdp : 0 < bN d := formZ (formB_iff.2 (by obtain ⟨x, hx, _⟩ := errN_zero.1 h2; exact isForm_iff.2 ⟨x, hx⟩)) h3
          have l1 : (limbs (bN (iD n))).length ≤ 1000 := dv_limbs d1 (by rw [list_size]; omega)
          have l2 : (limbs (bN d)).length ≤ 1000 := d4
          have HP1 := fun V => HP1 V d1
          have HP2 := fun V => HP2 V d2
          have HQ := qmk_len (m := iM n) hdp l1 l2
          have HM := fun V v u hv hu => hid (f_Make V (iM n) v u (bN (iD n)) (bN d) hv hu hdp (by omega) (by omega))
          obtain ⟨Q, hQ⟩ : ∃ Q, qmk (iM n) (bN (iD n)) (bN d) = Q := ⟨_, rfl⟩
          rw [hQ] at HQ HM ⊢
          have HN := fun V v hv hL => hid (f_Num V v Q hv (by omega) (by omega) hL)
          rw [hb] at HI
          rw [h2] at HC
          have i1 := ne_lit (l := [48]) h3
          clear e1 e2 hb hz hn hd hL h1 nb nc h2 h3 d1 d2 d3 d4 hdp l1 l2 HQ hQ
          go_enter Tryz.func88, Tryz.ntmps88
          go_wp2_with fail
          refine (HI _).out.mono ?_; rintro e w1 ⟨rfl, hb1⟩
          have b1 := hid hb1; clear hb1
          go_wp2_with fail
          refine (HC _).out.mono ?_; rintro e w2 ⟨rfl, hb2⟩
          have b2 := hid (bnext b1.out hb2); clear hb2
          go_wp2_with fail
          refine (HP1 _).out.mono ?_; rintro e w3 ⟨⟨v3, rfl, hv3⟩, hb3⟩
          have b3 := hid (bnext b2.out hb3); have V3 := hid hv3; clear hb3 hv3
          go_wp2_with fail
          refine (HP2 _).out.mono ?_; rintro e w4 ⟨⟨v4, rfl, hv4⟩, hb4⟩
          have b4 := hid (bnext b3.out hb4); have V4 := hid hv4; have W3 := hid (V3.out.call hb4); clear hb4 hv4
          go_wp2_with fail
          refine (HM _ _ _ W3.out V4.out).out.mono ?_; rintro e w5 ⟨⟨v5, rfl, hv5⟩, hb5⟩
          have b5 := hid (bnext b4.out hb5); have V5 := hid hv5; clear hb5 hv5
          go_wp2_with fail
          refine (HN _ _ V5.out (HL.out.call b5.out)).out.mono ?_; rintro e w6 ⟨rfl, hb6⟩
          have b6 := hid (bnext b5.out hb6); clear hb6
          go_wp2_with fail
          go_ret2
          exact ⟨rfl, b6.out⟩
      · have e1 : mkB n d = ⟨#[]⟩ := by rw [mkB, if_neg nb, if_neg h1, if_pos h2]
        have e2 : mkE n d = errN d.data.toList := by rw [mkE, if_neg nb, if_neg h1, if_pos h2]
        rw [e1, e2]
        rw [hb] at HI
        obtain ⟨x, hx⟩ : ∃ x, errN d.data.toList = x := ⟨_, rfl⟩
        rw [hx] at HC h2 ⊢
        have q1 : (x == 0) = false := by simpa using h2
        have q2 : (x != 0) = true := by simpa using h2
        clear e1 e2 hb hz HP1 HP2 hn hd hL h1 nb h2 hx
        go_enter Tryz.func88, Tryz.ntmps88
        go_wp2_with fail
        refine (HI _).out.mono ?_; rintro e w1 ⟨rfl, hb1⟩
        have b1 := hid hb1; clear hb1
        go_wp2_with fail
        refine (HC _).out.mono ?_; rintro e w2 ⟨rfl, hb2⟩
        have b2 := hid (bnext b1.out hb2); clear hb2
        go_wp2_with fail
        go_ret2
        exact ⟨rfl, b2.out⟩
end Go.Proofs.YtikfgddgfddbaaaGreatDoor

/- Walks: geom.late, TwoLate. -/
namespace Go.Proofs.YtikfgddgfddbaaaGreatDoor
open Go.RowKit
open Go.Lib (decDigits nDigits)
set_option linter.unusedVariables false
set_option linter.unusedSimpArgs false

/-- A row of the call's own, of n + 1 numbers. -/
def OwnR (w : World) (H n : Nat) (v : Value) (l : List Nat) : Prop := ∃ g, v = .slice (some ⟨g, 0, none⟩) (n + 1) (n + 1) ∧ H ≤ g ∧ NRow w g l

/-- The table that late takes: of one series, or of two. -/
def lateL (two : Bool) (L : List Nat) (n : Nat) : List Nat := if two = true then cOut L n (n + 1) else L

theorem bN_num' (n : Nat) : bN (numB n) = n := bN_num n
theorem mk_num {a b : Nat} (ha : nDigits a ≤ 4000) (hb : nDigits b ≤ 4000) (h0 : b ≠ 0) : mkB (numB a) (numB b) = outB (qmk false a b) ∧ mkE (numB a) (numB b) = outE (qmk false a b) := by
  have e1 : iM (numB a) = false := by
    unfold iM Lib.hasPrefix
    rw [numB_list]
    exact minus_dec a
  have e2 : iD (numB a) = numB a := iD_plain e1
  have e3 : iB (numB a) = true := by
    unfold iB
    rw [e1, e2, fB_num]; rfl
  have e4 : errN (numB b).data.toList = 0 := errN_numB hb
  have e5 : ¬ (numB b = ⟨#[48]⟩) := by rw [← numB_zero]; exact numB_ne h0
  have e6 : ¬ 4000 < (iD (numB a)).size := by rw [e2, numB_size]; omega
  constructor
  · rw [mkB, if_neg (by simp [e3]), if_neg e6, if_neg (fun h => h e4), if_neg e5, e1, e2, bN_num, bN_num]
  · rw [mkE, if_neg (by simp [e3]), if_neg e6, if_neg (fun h => h e4), if_neg e5, e1, e2, bN_num, bN_num]

set_option maxRecDepth 100000 in
set_option maxHeartbeats 8000000 in
theorem g_late (w : World) (a : ByteArray) (n N D : Nat) (two : Bool) (ha : a.size ≤ 100000) (he : gPE a = 0) (hn : n ≤ 256) (hN : bN (cW a) = N) (hD : bN (qD a) = D) (hND : N < D) (hL : Lay w)
    (hR : ∀ i, i ≤ n → (lateL two (tOut (oneJ N D) (zeroJ N D) n (n + 1)).2 n).getD i 0 * 2 ^ (n - i) ≤ rIn (lateL two (tOut (oneJ N D) (zeroJ N D) n (n + 1)).2 n) n i) :
    Calls Tryz.prog 45 #[.string a, .int .i64 n, .bool two] w fun e w' => e = .returned (.tuple #[.string (outB (qmk false (rIn (lateL two (tOut (oneJ N D) (zeroJ N D) n (n + 1)).2 n) n (n + 1)) (2 ^ n))), .int .i64 0]) ∧ Below w.heap.size w w' := by
  have HA := hid (g_ratio w a ha hL)
  rw [if_pos he, if_pos he, he] at HA
  have HT := fun V hV => hid (g_totals V a n N D ha he (by omega) hN hD hND hV)
  have HRep := fun V g h => hid (s_Repeat V g (n + 1) ⟨#[48]⟩ (by omega) (by omega) h)
  have hLb := tab_bound (os := oneJ N D) (zs := zeroJ N D) rfl hn
  obtain ⟨L, hL0⟩ : ∃ L, (tOut (oneJ N D) (zeroJ N D) n (n + 1)).2 = L := ⟨_, rfl⟩
  have HLQ := hid hL0
  rw [hL0] at hLb hR ⊢
  have HLb := hid hLb
  have hM : (lateL two L n).length = n + 1 ∧ ∀ k, (lateL two L n).getD k 0 ≤ 2 ^ e7 := by
    unfold lateL
    split
    · have h := CB.outer hLb.2 (n + 1) (Nat.le_refl (n + 1))
      exact ⟨h.len, fun k => conv_bound hn (Nat.le_refl _) (h.up k)⟩
    · exact ⟨hLb.1, fun k => Nat.le_trans (hLb.2 k) (Nat.pow_le_pow_right (by omega) (by unfold e3 e7; omega))⟩
  obtain ⟨M, hM0⟩ : ∃ M, lateL two L n = M := ⟨_, rfl⟩
  have HMQ := hid hM0
  rw [hM0] at hM hR ⊢
  have HMb := hid hM; have HR := hid hR
  have hmk := mk_num (a := rIn M n (n + 1)) (b := 2 ^ n) (two_pow_digits (rIn_le M n _) (by omega)) (two_pow_digits (Nat.le_refl _) (by omega)) (by have := Nat.pow_pos (n := n) (show 0 < 2 by omega); omega)
  have hov : ¬ ovQ (qmk false (rIn M n (n + 1)) (2 ^ n)) := by
    have hd : 0 < 2 ^ n := Nat.pow_pos (by omega)
    unfold ovQ
    rw [qmk_num hd, qmk_den hd, sgn_natAbs]
    have h1 := nDigits_mono (Nat.div_le_self (rIn M n (n + 1)) (Nat.gcd (rIn M n (n + 1)) (2 ^ n)))
    have h2 := nDigits_mono (Nat.div_le_self (2 ^ n) (Nat.gcd (rIn M n (n + 1)) (2 ^ n)))
    have h3 := two_pow_digits (rIn_le M n (n + 1)) (by omega)
    have h4 := two_pow_digits (Nat.le_refl (2 ^ n)) (by omega)
    omega
  have HQM := fun V hV => hid (q_Make V (numB (rIn M n (n + 1))) (numB (2 ^ n)) (numB_sz (two_pow_digits (rIn_le M n _) (by omega))) (numB_sz (two_pow_digits (Nat.le_refl _) (by omega))) hV)
  rw [hmk.1, hmk.2, outE_ok hov] at HQM
  obtain ⟨out, hout⟩ : ∃ o, outB (qmk false (rIn M n (n + 1)) (2 ^ n)) = o := ⟨_, rfl⟩
  rw [hout] at HQM ⊢
  have HLy := hid hL; have HLL := hid hL.lt; have HN := hid hn
  have wn : IntKind.i64.wrap ((n : Int) + 1) = ((n + 1 : Nat) : Int) := by rw [IntWalk.i64_in _ ⟨by omega, by omega⟩]; omega
  have q0 : decide ((n : Int) < 0) = false := by simp
  have q1 : decide ((256 : Int) < (n : Int)) = false := by simp; omega
  have n256 : (n : Int) ≤ 256 := by omega
  clear ha he hn hN hD hND hL hR hLb hL0 hM hM0 hmk hov hout
  go_enter Tryz.func45, Tryz.ntmps45
  go_wp2_with fail
  refine HA.out.mono ?_; rintro e w1 ⟨rfl, hb1⟩
  have B1 := hid hb1
  clear hb1 HA
  go_wp2_with fail
  refine (HT _ (HLy.out.call B1.out)).out.mono ?_; rintro e w2 ⟨⟨g11, rfl, h11, hr11⟩, hb2⟩
  rw [HLQ.out] at hr11
  have R11 := hid hr11; have B2 := hid (bnext B1.out hb2); have K11 := hid (show w.heap.size ≤ g11 from Nat.le_trans B1.out.size h11)
  clear h11 hr11 hb2 HT
  go_upto_if 38 with fail
  go_cut [11] (fun s11 wx => OwnR wx w.heap.size n s11 M ∧ Below w.heap.size w wx)
  case first =>
    cases two
    · go_wp2_with fail
      go_meet
      exact ⟨⟨g11, rfl, K11.out, by rw [← HMQ.out]; exact R11.out⟩, B2.out⟩
    · go_wp2_with fail
      refine (HRep _ _ ((Blk.new w2 _ _).cell 0)).out.mono ?_; rintro e w3 ⟨rfl, hg8, hb3⟩
      obtain ⟨g12, h8⟩ : ∃ g, (w2.alloc (.cells #[.string ⟨#[48]⟩] 22)).heap.size = g := ⟨_, rfl⟩
      rw [h8] at hg8 ⊢
      have R12 := hid (NRow.zeros hg8)
      have a2 := (Below.refl w2.heap.size w2).alloc (Nat.le_refl _) (.cells #[.string ⟨#[48]⟩] 22)
      have b3 := hid (bnext a2 hb3)
      have B3 := hid (bnext B2.out b3.out); have R113 := hid (R11.out.call b3.out)
      have K12 := hid (show w.heap.size ≤ g12 by rw [← h8]; have := B2.out.size; simp; omega)
      have NE := hid (show g11 ≠ g12 by have := R11.out.lt; rw [← h8]; simp; omega)
      clear hg8 hb3 a2 h8 HRep b3
      have hc0 := hid (show NRow w3 g12 (cOut L n 0) from R12.out)
      go_wp2_with fail
      go_loopw [45] (fun ii wr => ∃ i : Nat, ii = .int .i64 (i : Nat) ∧ i ≤ n + 1 ∧ Hid (NRow wr g12 (cOut L n i)) ∧ Hid (NRow wr g11 L) ∧ Hid (Below w.heap.size w wr)) (fun ii wr => n + 1 - (intOf ii).toNat)
      case atStart => exact ⟨0, rfl, Nat.zero_le _, hc0, R113, B3⟩
      case round =>
        obtain ⟨i, rfl, hi, hg12, hg11, hB⟩ := hrel
        by_cases hlt : i < n + 1
        · have q5 : decide ((i : Int) < ((n + 1 : Nat) : Int)) = true := by simp; omega
          have f0 : (0 : Int) ≤ (i : Int) := by omega
          have f1 : (i : Int) < ((n + 1 : Nat) : Int) := by omega
          have f2 : (i : Int) ≤ 256 := by have := HN.out; omega
          have IL := hid hlt
          have CBI := hid (CB.outer (n := n) HLb.out.2 i hi)
          clear hi hlt
          go_wp2_with fail
          have d30 : decide ((i : Int) < (n : Int) + 1) = true := by have := IL.out; simp; omega
          try rw [d30]
          clear d30
          obtain ⟨wo, rfl⟩ : ∃ wo : World, wo = wr := ⟨_, rfl⟩
          obtain ⟨m0, hm0⟩ : ∃ s, cOut L n i = s := ⟨_, rfl⟩
          have hnext := hid (show cOut L n (i + 1) = cIn L i (n + 1 - i) m0 from by rw [cOut, hm0])
          rw [hm0] at hg12 CBI
          clear hm0
          go_loopw [14] (fun jj wq => ∃ j : Nat, jj = .int .i64 (j : Nat) ∧ i + j ≤ n + 1 ∧ Hid (NRow wq g12 (cIn L i j m0)) ∧ Hid (NRow wq g11 L) ∧ Hid (Below w.heap.size w wq)) (fun jj wq => n + 1 - (intOf jj).toNat)
          case atStart => exact ⟨0, rfl, by have := IL.out; omega, hg12, hg11, hB⟩
          case round =>
            clear hg12 hg11 hB
            obtain ⟨j, rfl, hj, hg12, hg11, hB⟩ := hrel
            have CBJ := hid (CB.inner CBI.out HLb.out.2 j hj)
            by_cases hlt : i + j ≤ n
            · have q6 : decide ((i : Int) + (j : Int) ≤ (n : Int)) = true := by simp; omega
              have f5 : (0 : Int) ≤ (j : Int) := by omega
              have f6 : (j : Int) < ((n + 1 : Nat) : Int) := by omega
              have f7 : (j : Int) ≤ 256 := by have := HN.out; omega
              have f8 : (i : Int) + (j : Int) < ((n + 1 : Nat) : Int) := by omega
              have f9 : (i : Int) + (j : Int) < (n : Int) + 1 := by omega
              have f10 : (0 : Int) ≤ (i : Int) + (j : Int) := by omega
              have f11 : (j : Int) < (n : Int) + 1 := by omega
              have HLT := hid hlt
              obtain ⟨y, hy⟩ : ∃ y, (cIn L i j m0).getD (i + j) 0 = y := ⟨_, rfl⟩
              obtain ⟨x1, hx1⟩ : ∃ y, L.getD i 0 = y := ⟨_, rfl⟩
              obtain ⟨x2, hx2⟩ : ∃ y, L.getD j 0 = y := ⟨_, rfl⟩
              have b1 : x1 ≤ 2 ^ e3 := hx1 ▸ HLb.out.2 i
              have b2 : x2 ≤ 2 ^ e3 := hx2 ▸ HLb.out.2 j
              have tb : i * (n + 1) + j + 1 ≤ (n + 1) * (n + 1) := by
                have h1 : (i + 1) * (n + 1) ≤ (n + 1) * (n + 1) := Nat.mul_le_mul_right _ (by omega)
                rw [Nat.succ_mul] at h1
                omega
              have by0 : y ≤ 2 ^ e7 := hy ▸ conv_bound HN.out (t := i * (n + 1) + j) (by omega) (CBJ.out.up (i + j))
              have bm : x1 * x2 ≤ 2 ^ e7 := by
                have h1 := Nat.mul_le_mul b1 b2
                rw [← Nat.pow_add] at h1
                exact Nat.le_trans h1 (Nat.pow_le_pow_right (by omega) (by unfold e3 e7; omega))
              have bs : y + x1 * x2 ≤ 2 ^ (e7 + 1) := by rw [Nat.pow_succ]; omega
              have e37 : e3 ≤ 3000 ∧ e7 + 1 ≤ 3000 := by unfold e3 e7; omega
              have P1 := fun V hV => hid (p_times V x1 x2 (two_pow_digits b1 e37.1) (two_pow_digits b2 e37.1) (two_pow_digits bm (by omega)) hV)
              have P2 := fun V hV => hid (p_plus V y (x1 * x2) (two_pow_digits by0 (by omega)) (two_pow_digits bm (by omega)) (two_pow_digits bs e37.2) hV)
              have t1 : wr.cell? ⟨g12, i + j, none⟩ = some (.string (numB y)) := by rw [← hy]; exact hg12.out.cell (by rw [CBJ.out.len]; have := HLT.out; omega)
              have t2 : wr.cell? ⟨g11, i, none⟩ = some (.string (numB x1)) := by rw [← hx1]; exact hg11.out.cell (by rw [HLb.out.1]; exact IL.out)
              have t3 : wr.cell? ⟨g11, j, none⟩ = some (.string (numB x2)) := by rw [← hx2]; exact hg11.out.cell (by rw [HLb.out.1]; have := HLT.out; omega)
              obtain ⟨u1, hu1⟩ : ∃ s, numB y = s := ⟨_, rfl⟩
              obtain ⟨u2, hu2⟩ : ∃ s, numB x1 = s := ⟨_, rfl⟩
              obtain ⟨u3, hu3⟩ : ∃ s, numB x2 = s := ⟨_, rfl⟩
              obtain ⟨u4, hu4⟩ : ∃ s, numB (x1 * x2) = s := ⟨_, rfl⟩
              obtain ⟨u5, hu5⟩ : ∃ s, numB (y + x1 * x2) = s := ⟨_, rfl⟩
              rw [hu2, hu3, hu4] at P1
              rw [hu1, hu4, hu5] at P2
              rw [hu1] at t1
              rw [hu2] at t2
              rw [hu3] at t3
              have hstep := hid (show cIn L i (j + 1) m0 = (cIn L i j m0).set (i + j) (y + x1 * x2) from by rw [cIn, cStep, hy, hx1, hx2])
              have HU5 := hid hu5
              clear hy hx1 hx2 b1 b2 tb by0 bm bs e37 hu1 hu2 hu3 hu4 hu5 hlt hj
              go_wp2_with fail
              have ew : IntKind.i64.wrap ((i : Int) + (j : Int)) = (i : Int) + (j : Int) := by rw [IntWalk.i64_in _ ⟨by omega, by omega⟩]
              have et : ((i : Int) + (j : Int)).toNat = i + j := by omega
              refine held_lasts 20 2 [0, 1, 2, 3, 4, 5, 6, 7, 8, 9, 10, 11, 12, 13, 14, 15, 16, 17] 2 (fun W' => W'.cell? ⟨g12, i + j, none⟩ = some (.string u1) ∧ W'.cell? ⟨g11, i, none⟩ = some (.string u2) ∧ W'.cell? ⟨g11, j, none⟩ = some (.string u3)) (by kernel_rfl) rfl (by kernel_rfl) (by kernel_rfl) (by kernel_rfl) (by kernel_rfl) ⟨t1, t2, t3⟩ ?_
              iterate 18
                refine ⟨_, rfl, ?_⟩
                apply Exists.intro
                refine ⟨.inl ⟨by rfl, ?_⟩, ?_⟩
                · (intro W' hW'; obtain ⟨r1, r2, r3⟩ := hW'; go_simp; try (with_reducible rfl))
                (dsimp only [Act.put]; try simp only [List.setIfInBounds_toArray, List.set_cons_zero, List.set_cons_succ])
              refine held_one (i := 18) (by kernel_rfl) (by rfl) (by rfl) ?_
              go_wp2_with fail
              refine (P1 _ (HLy.out.below hB.out.drew HLL.out)).out.mono ?_; rintro e w5 ⟨rfl, hbc⟩
              have C5 := hid (show Below wr.heap.size wr w5 from (Below.refl _ _).drew.trans hbc)
              have E5 := hid (hg12.out.call C5.out); have F5 := hid (hg11.out.call C5.out); have EB5 := hid (hB.out.trans (C5.out.mono hB.out.size))
              have s1 := (C5.out.cell (cell_lt t1)).trans t1
              have s2 := (C5.out.cell (cell_lt t2)).trans t2
              have s3 := (C5.out.cell (cell_lt t3)).trans t3
              clear hbc t1 t2 t3
              go_wp2_with fail
              refine ⟨⟨s1, s2, s3⟩, ?_⟩
              refine held_one (i := 19) (by kernel_rfl) (by rfl) (by rfl) ?_
              go_wp2_with fail
              refine (P2 _ (HLy.out.below EB5.out HLL.out)).out.mono ?_; rintro e w6 ⟨rfl, hbc⟩
              have E6 := hid (E5.out.call hbc); have F6 := hid (F5.out.call hbc); have EB6 := hid (EB5.out.trans (hbc.mono EB5.out.size))
              have v1 := (hbc.cell (cell_lt s1)).trans s1
              have v2 := (hbc.cell (cell_lt s2)).trans s2
              have v3 := (hbc.cell (cell_lt s3)).trans s3
              clear hbc s1 s2 s3
              go_wp2_with fail
              refine ⟨⟨v1, v2, v3⟩, ?_⟩
              refine wpAnyH_done (by kernel_rfl) ?_ _
              simp only [Only, ThenL, List.drop_succ_cons, List.drop_zero]
              have fz := E6.out.free (i + j)
              clear v2 v3
              go_wp2_with fail
              try simp only [Only]
              go_roundw
              case rel =>
                refine ⟨j + 1, by go_num, by have := HLT.out; omega, ?_, F6.out.other (fun e => NE.out e.symm) _, EB6.out.setCell K12.out _⟩
                show NRow _ _ _
                rw [hstep.out, ← HU5.out]
                exact E6.out.set (i + j) (y + x1 * x2)
              case measure => simp [intOf] <;> (have := HLT.out; omega)
            · have q6 : decide ((i : Int) + (j : Int) ≤ (n : Int)) = false := by simp; omega
              have e1 : j = n + 1 - i := by omega
              have f7 : (j : Int) ≤ 257 := by have := HN.out; omega
              have f5 : (0 : Int) ≤ (j : Int) := by omega
              subst e1
              clear hj hlt
              go_wp2_with fail
              go_roundw
              case rel => exact ⟨i + 1, by go_num, by have := IL.out; omega, by rw [hnext.out]; exact hg12, hg11, hB⟩
              case measure => simp [intOf] <;> (have := IL.out; omega)
        · have q5 : decide ((i : Int) < ((n + 1 : Nat) : Int)) = false := by simp; omega
          have e1 : i = n + 1 := by omega
          subst e1
          go_wp2_with fail
          go_meet
          exact ⟨⟨g12, rfl, K12.out, by rw [← HMQ.out]; exact hg12.out⟩, hB.out⟩
  case rest =>
    obtain ⟨⟨g, rfl, hg, hrow⟩, hB⟩ := hcut
    have RG := hid hrow; have KG := hid hg; have B3 := hid hB
    have HPow := fun V k (hk : k ≤ 256) hV => hid (g_power V k (by omega) hV)
    clear hrow hg hB
    go_wp2_with fail
    refine (HPow _ n HN.out (HLy.out.call B3.out)).out.mono ?_; rintro e w4 ⟨rfl, hb4⟩
    have RG4 := hid (RG.out.call hb4); have B4 := hid (bnext B3.out hb4)
    clear hb4
    go_wp2_with fail
    go_loopw [15, 82] (fun rr ii wr => ∃ i : Nat, ii = .int .i64 (i : Nat) ∧ i ≤ n + 1 ∧ rr = .string (numB (rIn M n i)) ∧ Hid (NRow wr g M) ∧ Hid (Below w.heap.size w wr)) (fun rr ii wr => n + 1 - (intOf ii).toNat)
    case atStart => exact ⟨0, rfl, Nat.zero_le _, rfl, RG4, B4⟩
    case round =>
      obtain ⟨i, rfl, hi, rfl, hrow, hB⟩ := hrel
      by_cases hlt : i < n + 1
      · have q5 : decide ((i : Int) < ((n + 1 : Nat) : Int)) = true := by simp; omega
        have f0 : (0 : Int) ≤ (i : Int) := by omega
        have f1 : (i : Int) < ((n + 1 : Nat) : Int) := by omega
        have f2 : (i : Int) ≤ 256 := by have := HN.out; omega
        have f3 : (i : Int) ≤ (n : Int) := by omega
        have w1' : IntKind.i64.wrap ((n : Int) - (i : Int)) = ((n - i : Nat) : Int) := by rw [IntWalk.i64_in _ ⟨by omega, by omega⟩]; omega
        have IL := hid hlt
        obtain ⟨x, hx⟩ : ∃ x, M.getD i 0 = x := ⟨_, rfl⟩
        have t1 : wr.cell? ⟨g, i, none⟩ = some (.string (numB x)) := by rw [← hx]; exact hrow.out.cell (by rw [HMb.out.1]; exact IL.out)
        have bx : x ≤ 2 ^ e7 := hx ▸ HMb.out.2 i
        have hle : x * 2 ^ (n - i) ≤ rIn M n i := hx ▸ HR.out i (by omega)
        have hnx := hid (show rIn M n (i + 1) = rIn M n i - x * 2 ^ (n - i) from by rw [rIn, hx])
        have br := rIn_le M n i
        obtain ⟨r, hr⟩ : ∃ r, rIn M n i = r := ⟨_, rfl⟩
        rw [hr] at hle hnx br ⊢
        have P1 := fun V hV => hid (p_times V x (2 ^ (n - i)) (two_pow_digits bx (by unfold e7; omega)) (two_pow_digits (Nat.le_refl _) (by omega)) (two_pow_digits (Nat.le_trans hle br) (by have := HN.out; omega)) hV)
        have P2 := fun V hV => hid (p_sub V r (x * 2 ^ (n - i)) (two_pow_digits br (by have := HN.out; omega)) (two_pow_digits (Nat.le_trans hle br) (by have := HN.out; omega)) hle hV)
        have P0 := fun V hV => (HPow V (n - i) (by have := HN.out; omega) hV)
        obtain ⟨u1, hu1⟩ : ∃ s, numB x = s := ⟨_, rfl⟩
        obtain ⟨u2, hu2⟩ : ∃ s, numB (2 ^ (n - i)) = s := ⟨_, rfl⟩
        obtain ⟨u3, hu3⟩ : ∃ s, numB (x * 2 ^ (n - i)) = s := ⟨_, rfl⟩
        obtain ⟨u4, hu4⟩ : ∃ s, numB r = s := ⟨_, rfl⟩
        obtain ⟨u5, hu5⟩ : ∃ s, numB (r - x * 2 ^ (n - i)) = s := ⟨_, rfl⟩
        rw [hu2] at P0
        rw [hu1, hu2, hu3] at P1
        rw [hu3, hu4, hu5] at P2
        rw [hu1] at t1
        rw [hu4]
        have HU5 := hid hu5
        clear hx bx hle br hr hu1 hu2 hu3 hu4 hu5 hi hlt HPow
        go_wp2_with fail
        refine (P0 _ (HLy.out.below hB.out HLL.out)).out.mono ?_; rintro e w5 ⟨rfl, hb5⟩
        have R5 := hid (hrow.out.call hb5); have B5 := hid (hB.out.trans (hb5.mono hB.out.size))
        clear hb5 t1
        go_wp2_with fail
        refine (P1 _ (HLy.out.below B5.out HLL.out)).out.mono ?_; rintro e w6 ⟨rfl, hb6⟩
        have R6 := hid (R5.out.call hb6); have B6 := hid (B5.out.trans (hb6.mono B5.out.size))
        clear hb6
        go_wp2_with fail
        refine (P2 _ (HLy.out.below B6.out HLL.out)).out.mono ?_; rintro e w7 ⟨rfl, hb7⟩
        have R7 := hid (R6.out.call hb7); have B7 := hid (B6.out.trans (hb7.mono B6.out.size))
        clear hb7 w1'
        go_wp2_with fail
        go_roundw
        case rel => exact ⟨i + 1, by go_num, by have := IL.out; omega, by rw [hnx.out, HU5.out], R7, B7⟩
        case measure => simp [intOf] <;> (have := IL.out; omega)
      · have q5 : decide ((i : Int) < ((n + 1 : Nat) : Int)) = false := by simp; omega
        have e1 : i = n + 1 := by omega
        subst e1
        obtain ⟨u1, hu1⟩ : ∃ s, numB (rIn M n (n + 1)) = s := ⟨_, rfl⟩
        obtain ⟨u2, hu2⟩ : ∃ s, numB (2 ^ n) = s := ⟨_, rfl⟩
        have P0 := fun V hV => (HPow V n HN.out hV)
        rw [hu1, hu2] at HQM
        rw [hu2] at P0
        rw [hu1]
        clear hu1 hu2 HPow hi hlt
        go_wp2_with fail
        refine (P0 _ (HLy.out.below hB.out HLL.out)).out.mono ?_; rintro e w5 ⟨rfl, hb5⟩
        have B5 := hid (hB.out.trans (hb5.mono hB.out.size))
        clear hb5
        go_wp2_with fail
        refine (HQM _ (HLy.out.below B5.out HLL.out)).out.mono ?_; rintro e w6 ⟨rfl, hb6⟩
        have B6 := hid (B5.out.trans (hb6.mono B5.out.size))
        clear hb6
        go_wp2_with fail
        go_ret2
        exact ⟨rfl, B6.out⟩

set_option maxRecDepth 100000 in
set_option maxHeartbeats 1000000 in
theorem g_TwoLate (w : World) (a : ByteArray) (n N D : Nat) (ha : a.size ≤ 100000) (he : gPE a = 0) (hn : n ≤ 256) (hN : bN (cW a) = N) (hD : bN (qD a) = D) (hND : N < D) (hL : Lay w)
    (hR : ∀ i, i ≤ n → (lateL true (tOut (oneJ N D) (zeroJ N D) n (n + 1)).2 n).getD i 0 * 2 ^ (n - i) ≤ rIn (lateL true (tOut (oneJ N D) (zeroJ N D) n (n + 1)).2 n) n i) :
    Calls Tryz.prog 22 #[.string a, .int .i64 n] w fun e w' => e = .returned (.tuple #[.string (outB (qmk false (rIn (lateL true (tOut (oneJ N D) (zeroJ N D) n (n + 1)).2 n) n (n + 1)) (2 ^ n))), .int .i64 0]) ∧ Below w.heap.size w w' := by
  have H := hid (g_late w a n N D true ha he hn hN hD hND hL hR)
  obtain ⟨out, hout⟩ : ∃ o, outB (qmk false (rIn (lateL true (tOut (oneJ N D) (zeroJ N D) n (n + 1)).2 n) n (n + 1)) (2 ^ n)) = o := ⟨_, rfl⟩
  rw [hout] at H ⊢
  clear ha he hn hN hD hND hL hR hout
  go_enter Tryz.func22, Tryz.ntmps22
  go_wp2_with fail
  refine H.out.mono ?_; rintro e w1 ⟨rfl, hb1⟩
  have B1 := hid hb1; clear hb1
  go_wp2_with fail
  go_ret2
  exact ⟨rfl, B1.out⟩
end Go.Proofs.YtikfgddgfddbaaaGreatDoor

/- Plain: the values of lives at its three texts. -/
namespace Go.Proofs.YtikfgddgfddbaaaGreatDoor
open Go.RowKit
open Go.Lib (decDigits nDigits)
set_option linter.unusedVariables false
set_option linter.unusedSimpArgs false

theorem numB_two : numB 2 = ⟨#[50]⟩ := by unfold numB; rw [decDigits_small (by omega)]; rfl
theorem numB_three : numB 3 = ⟨#[51]⟩ := by unfold numB; rw [decDigits_small (by omega)]; rfl
theorem numB_four : numB 4 = ⟨#[52]⟩ := by unfold numB; rw [decDigits_small (by omega)]; rfl
theorem half_tx : (⟨#[49, 47, 50]⟩ : ByteArray) = txB false 1 2 := by
  unfold txB; rw [decDigits_small (show 1 < 10 by omega), decDigits_small (show 2 < 10 by omega)]; rfl
theorem quart_tx : (⟨#[51, 47, 52]⟩ : ByteArray) = txB false 3 4 := by
  unfold txB; rw [decDigits_small (show 3 < 10 by omega), decDigits_small (show 4 < 10 by omega)]; rfl

theorem nd_small {n : Nat} (h : n < 10) : nDigits n ≤ 1 := nDigits_le (k := 1) (by omega) (by omega)

theorem cW_half : cW (txB false 1 2) = numB 1 := by apply ba_ext; rw [cW_tx, numB_list]; rfl
theorem qE_half : qE (txB false 1 2) = 0 := qE_tx (by decide) (by omega) (fun h => by cases h) (by have := nd_small (show 1 < 10 by omega); omega) (by have := nd_small (show 2 < 10 by omega); omega)
theorem gPE_half : gPE (txB false 1 2) = 0 := by
  have n1 := nd_small (show 1 < 10 by omega)
  have n2 := nd_small (show 2 < 10 by omega)
  have h1 : cmpN (cW (txB false 1 2)).data.toList (qD (txB false 1 2)).data.toList = -1 := by
    rw [cW_half, qD_tx, cmpN_num (by omega) (by omega)]; rfl
  unfold gPE
  rw [qE_half, if_neg (by simp), if_neg, if_neg]
  · rw [cW_half, qD_tx, numB_size, numB_size]; omega
  · rw [h1, iM_tx]; simp

def b1B : ByteArray := ⟨#[48, 48, 49, 48]⟩
def b2B : ByteArray := ⟨#[49, 48, 49]⟩
theorem chk_b1 : chkE b1B = 0 := by decide
theorem chk_b2 : chkE b2B = 0 := by decide
theorem b1L : b1B.data.toList = [48, 48, 49, 48] := rfl
theorem b2L : b2B.data.toList = [49, 48, 49] := rfl

/-- The even coin: each bit is one coin. -/
theorem toss_half (b : UInt8) (r : List UInt8) : toss 1 2 0 1 (b :: r) = (true, if b = 49 then 0 else 1, 1) := by
  rw [toss_next (by decide)]
  by_cases h : b = 49
  · rw [if_pos h, toss_done (by decide)]; rw [if_pos h]; rfl
  · rw [if_neg h, toss_done (by decide)]; rw [if_neg h]; rfl
theorem coin_half {l : List UInt8} {p : Nat} {b : UInt8} {r : List UInt8} (h : l.drop p = b :: r) : coinF 1 2 l p = (true, if b = 49 then 0 else 1, 1) := by
  rw [coinF_eq, h, toss_half]

theorem half_one {l : List UInt8} {m p n : Nat} {vs : List Nat} {b : UInt8} {r : List UInt8} (hm : 1 ≤ m) (hp : p ≤ l.length) (h : l.drop p = b :: r) (hb : b ≠ 49) : sr 1 2 l m p vs n = sr 1 2 l m (p + 1) vs (n + 1) := by
  have hc := coin_half h
  rw [if_neg hb] at hc
  rw [sr_one (by omega) hm hp (by rw [hc]) (by rw [hc]), hc]
theorem half_stop {l : List UInt8} {p n : Nat} {vs : List Nat} {b : UInt8} {r : List UInt8} (h : l.drop p = b :: r) (hb : b = 49) : sr 1 2 l 1 p vs n = some (vs ++ [n], p + 1) := by
  have hc := coin_half h
  rw [if_pos hb] at hc
  rw [sr_stop (by rw [hc]) (by rw [hc]; simp), hc]

theorem s1_b1 : s1 1 2 [48, 48, 49, 48] 0 0 = some (2, 3) := by
  unfold s1
  rw [half_one (by omega) (by simp) (b := 48) (r := [48, 49, 48]) rfl (by decide)]
  rw [half_one (by omega) (by simp) (b := 48) (r := [49, 48]) rfl (by decide)]
  rw [half_stop (b := 49) (r := [48]) rfl rfl]
  rfl
theorem s1_b2 : s1 1 2 [49, 48, 49] 0 0 = some (0, 1) := by
  unfold s1
  rw [half_stop (b := 49) (r := [48, 49]) rfl rfl]
  rfl
theorem s1_b3 : s1 1 2 [49, 48, 49] 1 0 = some (1, 3) := by
  unfold s1
  rw [half_one (by omega) (by simp) (b := 48) (r := [49]) rfl (by decide)]
  rw [half_stop (b := 49) (r := []) rfl rfl]
  rfl

theorem gE_b1 : gE (txB false 1 2) b1B = 0 := by unfold gE; rw [gPE_half, if_neg (by simp)]; exact chk_b1
theorem gE_b2 : gE (txB false 1 2) b2B = 0 := by unfold gE; rw [gPE_half, if_neg (by simp)]; exact chk_b2

theorem oT_b1 : oT (txB false 1 2) b1B = (true, 2, 3) := by
  rw [oT, if_pos gE_b1, cW_half, bN_num, bN_qD_tx, b1L, oneT, s1_b1]
  rfl
theorem wT_b2 : wT (txB false 1 2) b2B = (true, -1, 3) := by
  rw [wT, if_pos gE_b2, cW_half, bN_num, bN_qD_tx, b2L, twoT, s1_b2]
  dsimp only
  rw [s1_b3]
  rfl

def mL : List Nat := lateL true (tOut (oneJ 1 2) (zeroJ 1 2) 2 (2 + 1)).2 2
theorem mL_le : ∀ i, i ≤ 2 → mL.getD i 0 * 2 ^ (2 - i) ≤ rIn mL 2 i := by decide
theorem mL_r : rIn mL 2 (2 + 1) = 3 := by decide
theorem late_half : outB (qmk false (rIn mL 2 (2 + 1)) (2 ^ 2)) = txB false 3 4 := by
  rw [mL_r]
  obtain ⟨e1, e2, e3⟩ := qmk_ok (m := false) (n := 3) (d := 4) (by decide) (by omega) (fun h => by cases h)
  have n1 := nd_small (show 3 < 10 by omega)
  have n2 := nd_small (show 4 < 10 by omega)
  rw [show (2 ^ 2 : Nat) = 4 from rfl, outB, if_neg (by unfold ovQ; rw [e2, e3]; omega), txQ, e1, e2, e3]
end Go.Proofs.YtikfgddgfddbaaaGreatDoor

/- Walks: lives. -/
namespace Go.Proofs.YtikfgddgfddbaaaGreatDoor
open Go.RowKit Go.Shelf
open Go.Lib (decDigits nDigits)
set_option linter.unusedVariables false
set_option linter.unusedSimpArgs false

theorem late_12 (w : World) (hL : Lay w) : Calls Tryz.prog 22 #[.string ⟨#[49, 47, 50]⟩, .int .i64 2] w fun e w' => e = .returned (.tuple #[.string ⟨#[51, 47, 52]⟩, .int .i64 0]) ∧ Below w.heap.size w w' := by
  have H := g_TwoLate w (txB false 1 2) 2 1 2 (by rw [← half_tx]; decide) gPE_half (by omega) (by rw [cW_half, bN_num]) (bN_qD_tx _ _ _) (by omega) hL mL_le
  have e := late_half
  unfold mL at e
  rw [e, ← half_tx, ← quart_tx] at H
  exact H
theorem one_12 (w : World) (hL : Lay w) : Calls Tryz.prog 7 #[.string ⟨#[49, 47, 50]⟩, .string ⟨#[48, 48, 49, 48]⟩] w fun e w' => e = .returned (.tuple #[.agg #[.bool true, .int .i64 2, .int .i64 3], .int .i64 0]) ∧ Below w.heap.size w w' := by
  have H := g_One w (txB false 1 2) b1B (by rw [← half_tx]; decide) (by decide) hL
  rw [oT_b1, gE_b1, ← half_tx] at H
  exact H
theorem two_12 (w : World) (hL : Lay w) : Calls Tryz.prog 8 #[.string ⟨#[49, 47, 50]⟩, .string ⟨#[49, 48, 49]⟩] w fun e w' => e = .returned (.tuple #[.agg #[.bool true, .int .i64 (-1), .int .i64 3], .int .i64 0]) ∧ Below w.heap.size w w' := by
  have H := g_Two w (txB false 1 2) b2B (by rw [← half_tx]; decide) (by decide) hL
  rw [wT_b2, gE_b2, ← half_tx] at H
  exact H

set_option maxRecDepth 100000 in
set_option maxHeartbeats 1000000 in
theorem w_lives (w : World) (hL : Lay w) :
    Calls Tryz.prog 6 #[] w fun e w' => e = .returned (.bool true) ∧ Below w.heap.size w w' := by
  have H1 := fun V hV => hid (one_12 V hV)
  have H2 := fun V hV => hid (two_12 V hV)
  have H3 := fun V hV => hid (late_12 V hV)
  have b0 := hid (Below.refl w.heap.size w)
  have HL := hid hL
  clear hL
  go_enter Tryz.func6, Tryz.ntmps6
  go_wp2_with fail
  refine (H1 _ HL.out).out.mono ?_; rintro e w1 ⟨rfl, hb1⟩
  have b1 := hid hb1; clear hb1
  have X1 := hid (Blk.new w1 #[.bool true, .int .i64 2, .int .i64 3] 26)
  have B1 := hid (b1.out.alloc b1.out.size (.cells #[.bool true, .int .i64 2, .int .i64 3] 26))
  go_wp2_with fail
  refine (H2 _ (HL.out.call B1.out)).out.mono ?_; rintro e w2 ⟨rfl, hb2⟩
  have b2 := hid (bnext B1.out hb2); have x1 := hid (X1.out.call hb2); clear hb2
  have X2 := hid (Blk.new w2 #[.bool true, .int .i64 (-1), .int .i64 3] 26)
  have B2 := hid (b2.out.alloc b2.out.size (.cells #[.bool true, .int .i64 (-1), .int .i64 3] 26))
  have x1' := hid (x1.out.alloc (.cells #[.bool true, .int .i64 (-1), .int .i64 3] 26))
  go_wp2_with fail
  refine (H3 _ (HL.out.call B2.out)).out.mono ?_; rintro e w3 ⟨rfl, hb3⟩
  have b3 := hid (bnext B2.out hb3); have y1 := hid (x1'.out.call hb3); have y2 := hid (X2.out.call hb3); clear hb3
  have r0 := y1.out.cell 0
  have r1 := y1.out.cell 1
  have r2 := y1.out.cell 2
  have s0 := y2.out.cell 0
  have s1 := y2.out.cell 1
  have s2 := y2.out.cell 2
  simp at r0 r1 r2 s0 s1 s2
  go_wp2_with fail
  go_ret
  exact ⟨rfl, b3.out⟩
end Go.Proofs.YtikfgddgfddbaaaGreatDoor

/- The walk of GeomCoins. -/
namespace Go.Proofs.YtikfgddgfddbaaaGreatDoor
open Go.RowKit Go.Shelf
open Go.Lib (decDigits nDigits)
set_option linter.unusedVariables false
set_option linter.unusedSimpArgs false

theorem s1_late {N D : Nat} {l : List UInt8} {p n : Nat} (hd : (coinF N D l p).1 = false) : s1 N D l p n = none := by
  unfold s1; rw [sr_late (Nat.le_refl 1) hd]
theorem s1_more {N D : Nat} (h : N < D) {l : List UInt8} {p n : Nat} (hp : p ≤ l.length) (hd : (coinF N D l p).1 = true) (hv : (coinF N D l p).2.1 = 1) : s1 N D l p n = s1 N D l (p + (coinF N D l p).2.2) (n + 1) := by
  unfold s1; rw [sr_one h (Nat.le_refl 1) hp hd hv]
theorem s1_stop {N D : Nat} {l : List UInt8} {p n : Nat} (hd : (coinF N D l p).1 = true) (hv : ¬ (coinF N D l p).2.1 = 1) : s1 N D l p n = some (n, p + (coinF N D l p).2.2) := by
  unfold s1; rw [sr_stop hd hv]; rfl

set_option maxRecDepth 100000 in
set_option maxHeartbeats 1000000 in
theorem gc_big (w : World) (a b : ByteArray) (hab : 100 < a.size ∨ (a.size ≤ 100 ∧ 256 < b.size)) (hL : Lay w) :
    Calls Tryz.prog 3 #[.string a, .string b] w fun e w' => e = .returned (.bool true) ∧ Below w.heap.size w w' := by
  have HV := fun V hV => hid (w_lives V hV)
  have b0 := hid (Below.refl w.heap.size w)
  have HL := hid hL
  clear hL
  rcases hab with h | ⟨h, h2⟩
  · have q0 : decide ((100 : Int) < (a.size : Int)) = true := by simp; omega
    clear h
    go_enter Tryz.func3, Tryz.ntmps3
    go_wp2_with fail
    refine (HV _ HL.out).out.mono ?_; rintro e w1 ⟨rfl, hb1⟩
    have b1 := hid hb1; clear hb1
    go_wp2_with fail
    go_ret
    exact ⟨rfl, b1.out⟩
  · have q0 : decide ((100 : Int) < (a.size : Int)) = false := by simp; omega
    have q1 : decide ((256 : Int) < (b.size : Int)) = true := by simp; omega
    clear h h2
    go_enter Tryz.func3, Tryz.ntmps3
    go_wp2_with fail
    refine (HV _ HL.out).out.mono ?_; rintro e w1 ⟨rfl, hb1⟩
    have b1 := hid hb1; clear hb1
    go_wp2_with fail
    go_ret
    exact ⟨rfl, b1.out⟩

set_option maxRecDepth 100000 in
set_option maxHeartbeats 1000000 in
theorem gc_bad (w : World) (a b : ByteArray) (ha : a.size ≤ 100) (hb : b.size ≤ 256) (he : gE a b ≠ 0) (hL : Lay w) :
    Calls Tryz.prog 3 #[.string a, .string b] w fun e w' => e = .returned (.bool true) ∧ Below w.heap.size w w' := by
  have HV := fun V hV => hid (w_lives V hV)
  have H1 := fun V hV => hid (g_One V a b (by omega) (by omega) hV)
  have H2 := fun V hV => hid (g_Two V a b (by omega) (by omega) hV)
  rw [oT, if_neg he] at H1
  rw [wT, if_neg he] at H2
  simp only [d3] at H1 H2
  obtain ⟨x, hx⟩ : ∃ x, gE a b = x := ⟨_, rfl⟩
  rw [hx] at H1 H2 he
  have x0 : (x == 0) = false := by simpa using he
  have x1 : (x != 0) = true := by simpa using he
  have b0 := hid (Below.refl w.heap.size w)
  have HL := hid hL
  have q0 : decide ((100 : Int) < (a.size : Int)) = false := by simp; omega
  have q1 : decide ((256 : Int) < (b.size : Int)) = false := by simp; omega
  clear hL hx ha hb he
  go_enter Tryz.func3, Tryz.ntmps3
  go_wp2_with fail
  refine (HV _ HL.out).out.mono ?_; rintro e w1 ⟨rfl, hb1⟩
  have b1 := hid hb1; clear hb1
  go_wp2_with fail
  refine (H1 _ (HL.out.call b1.out)).out.mono ?_; rintro e w2 ⟨rfl, hb2⟩
  have b2 := hid (bnext b1.out hb2); clear hb2
  have X1 := hid (Blk.new w2 #[.bool false, .int .i64 0, .int .i64 0] 26)
  have B2 := hid (b2.out.alloc b2.out.size (.cells #[.bool false, .int .i64 0, .int .i64 0] 26))
  go_wp2_with fail
  refine (H2 _ (HL.out.call B2.out)).out.mono ?_; rintro e w3 ⟨rfl, hb3⟩
  have b3 := hid (bnext B2.out hb3); have y1 := hid (X1.out.call hb3); clear hb3
  have X2 := hid (Blk.new w3 #[.bool false, .int .i64 0, .int .i64 0] 26)
  have B3 := hid (b3.out.alloc b3.out.size (.cells #[.bool false, .int .i64 0, .int .i64 0] 26))
  have Y1 := hid (y1.out.alloc (.cells #[.bool false, .int .i64 0, .int .i64 0] 26))
  have r0 := Y1.out.cell 0
  have r1 := Y1.out.cell 1
  have r2 := Y1.out.cell 2
  have s0 := X2.out.cell 0
  have s1 := X2.out.cell 1
  have s2 := X2.out.cell 2
  simp at r0 r1 r2 s0 s1 s2
  go_wp2_with fail
  go_ret
  exact ⟨rfl, B3.out⟩
end Go.Proofs.YtikfgddgfddbaaaGreatDoor

/- The walk of GeomCoins where both texts are right. -/
namespace Go.Proofs.YtikfgddgfddbaaaGreatDoor
open Go.RowKit Go.Shelf
open Go.Lib (decDigits nDigits)
set_option linter.unusedVariables false
set_option linter.unusedSimpArgs false

def D3 (o1 : Bool) (o2 o3 : Int) : Array Value := #[.bool o1, .int .i64 o2, .int .i64 o3]
/-- What the loop keeps. -/
structure GcI (S : Nat → Nat → Option (Nat × Nat)) (sz wb g1 g2 : Nat) (c1 c2 : Array Value) (w0 : World) (n p : Nat) (wr : World) : Prop where
  np : n ≤ p
  le : p ≤ sz
  eq : S p n = S 0 0
  k1 : Blk wr g1 c1 26
  k2 : Blk wr g2 c2 26
  b : Below wb w0 wr

set_option maxRecDepth 100000 in
set_option maxHeartbeats 2000000 in
theorem gc_ok (w : World) (a b : ByteArray) (ha : a.size ≤ 100) (hb : b.size ≤ 256) (he : gE a b = 0) (hL : Lay w) :
    Calls Tryz.prog 3 #[.string a, .string b] w fun e w' => e = .returned (.bool true) ∧ Below w.heap.size w w' := by
  have HV := fun V hV => hid (w_lives V hV)
  have H1 := fun V hV => hid (g_One V a b (by omega) (by omega) hV)
  have H2 := fun V hV => hid (g_Two V a b (by omega) (by omega) hV)
  have hG := gE_ok he
  have hP := gPE_ok hG.1
  obtain ⟨N, hN⟩ : ∃ N, bN (cW a) = N := ⟨_, rfl⟩
  obtain ⟨D, hD⟩ : ∃ D, bN (qD a) = D := ⟨_, rfl⟩
  obtain ⟨L, hL'⟩ : ∃ L, b.data.toList = L := ⟨_, rfl⟩
  have hlen : L.length = b.size := by rw [← hL', list_size]
  have hND : N < D := by rw [← hN, ← hD]; exact hP.2
  have HDr : ∀ V p, Lay V → Hid (Calls Tryz.prog 9 #[.string a, .string (b.extract p b.size)] V fun e w' => e = .returned (.tuple #[drawV (coinF N D L p), .int .i64 0]) ∧ Below V.heap.size V w') := by
    intro V p hV
    have h1 := bit_drop hG.2 p
    have h2 := c_Draw_ok V a (b.extract p b.size) (by omega) h1.2.2 h1.1 hP.1 hV
    rw [h1.2.1, hN, hD, hL'] at h2
    exact hid h2
  have HOne : ∀ V p, p ≤ b.size → Lay V → Hid (Calls Tryz.prog 7 #[.string a, .string (b.extract p b.size)] V fun e w' => e = .returned (.tuple #[d3 (oneT N D (L.drop p)), .int .i64 0]) ∧ Below V.heap.size V w') := by
    intro V p hp hV
    have h1 := bit_drop hG.2 p
    have h2 := g_One V a (b.extract p b.size) (by omega) (by omega) hV
    have h3 : gE a (b.extract p b.size) = 0 := by unfold gE; rw [if_neg (by rw [hG.1]; simp)]; exact h1.1
    rw [oT, if_pos h3, h3, h1.2.1, hN, hD, hL'] at h2
    exact hid h2
  rw [oT, if_pos he, he, hN, hD, hL'] at H1
  rw [wT, if_pos he, he, hN, hD, hL'] at H2
  simp only [d3] at H1 H2 HOne
  obtain ⟨o, ho⟩ : ∃ o, oneT N D L = o := ⟨_, rfl⟩
  obtain ⟨z, hz⟩ : ∃ z, twoT N D L = z := ⟨_, rfl⟩
  rw [ho] at H1
  rw [hz] at H2
  obtain ⟨o1, o2, o3⟩ := o
  obtain ⟨z1, z2, z3⟩ := z
  have HO := hid ho; have HZ := hid hz; have HND := hid hND; have HLEN := hid hlen
  simp only at H1 H2
  have b0 := hid (Below.refl w.heap.size w)
  have HL := hid hL
  have HB := hid hb
  have q0 : decide ((100 : Int) < (a.size : Int)) = false := by simp; omega
  have q1 : decide ((256 : Int) < (b.size : Int)) = false := by simp; omega
  clear hL ha hb he hG hP hN hD hL' hlen hND ho hz
  go_enter Tryz.func3, Tryz.ntmps3
  go_wp2_with fail
  refine (HV _ HL.out).out.mono ?_; rintro e w1 ⟨rfl, hb1⟩
  have b1 := hid hb1; clear hb1
  go_wp2_with fail
  refine (H1 _ (HL.out.call b1.out)).out.mono ?_; rintro e w2 ⟨rfl, hb2⟩
  have b2 := hid (bnext b1.out hb2); clear hb2
  have X1 := hid (Blk.new w2 #[.bool o1, .int .i64 o2, .int .i64 o3] 26)
  have B2 := hid (b2.out.alloc b2.out.size (.cells #[.bool o1, .int .i64 o2, .int .i64 o3] 26))
  go_wp2_with fail
  refine (H2 _ (HL.out.call B2.out)).out.mono ?_; rintro e w3 ⟨rfl, hb3⟩
  have b3 := hid (bnext B2.out hb3); have y1 := hid (X1.out.call hb3); clear hb3
  have X2 := hid (Blk.new w3 #[.bool z1, .int .i64 z2, .int .i64 z3] 26)
  have B3 := hid (b3.out.alloc b3.out.size (.cells #[.bool z1, .int .i64 z2, .int .i64 z3] 26))
  have Y1 := hid (y1.out.alloc (.cells #[.bool z1, .int .i64 z2, .int .i64 z3] 26))
  obtain ⟨g1, hg1⟩ : ∃ g, w2.heap.size = g := ⟨_, rfl⟩
  obtain ⟨g2, hg2⟩ : ∃ g, w3.heap.size = g := ⟨_, rfl⟩
  rw [hg1] at Y1
  rw [hg2] at X2
  clear y1 X1 B2
  go_wp2_with fail
  try rw [hg1]
  try rw [hg2]
  clear hg1 hg2
  have AtS := hid (GcI.mk (S := s1 N D L) (sz := b.size) (n := 0) (p := 0) (Nat.le_refl _) (Nat.zero_le _) rfl Y1.out X2.out B3.out)
  clear X2 Y1 B3
  go_loopw [9, 10, 11, 12] (fun sn sa sd si wr => ∃ n p : Nat, sn = .int .i64 (n : Nat) ∧ sa = .int .i64 (p : Nat) ∧ sd = .bool false ∧ si = .int .i64 (n : Nat) ∧ Hid (GcI (s1 N D L) b.size w.heap.size g1 g2 #[.bool o1, .int .i64 o2, .int .i64 o3] #[.bool z1, .int .i64 z2, .int .i64 z3] w n p wr)) (fun sn sa sd si wr => b.size + 1 - (intOf si).toNat)
  case atStart => exact ⟨0, 0, rfl, rfl, rfl, rfl, AtS⟩
  case round =>
    obtain ⟨n, p, rfl, rfl, rfl, rfl, hI⟩ := hrel
    obtain ⟨c, hc⟩ : ∃ c, coinF N D L p = c := ⟨_, rfl⟩
    have C1 := fun V hV => HDr V p hV
    rw [hc] at C1
    have hle := coinF_le (N := N) (D := D) (l := L) (p := p) (by rw [HLEN.out]; exact hI.out.le)
    have hval : (coinF N D L p).2.1 ≤ 1 := by rw [coinF_eq]; exact toss_val N D _ _ _
    rw [hc, HLEN.out] at hle
    rw [hc] at hval
    obtain ⟨d, v, u⟩ := c
    simp only [drawV] at C1
    dsimp only at hle hval
    have np := hI.out.np
    have t0 : decide (n ≤ b.size) = true := by simp; omega
    have t1 : (0 : Int) ≤ (p : Int) := by omega
    have t2 : (p : Int) ≤ (b.size : Int) := by omega
    have HC := hid hc; have HLE := hid hle; have HVL := hid hval
    clear hc hle hval np HDr
    go_wp2_with fail
    refine (C1 _ (HL.out.below hI.out.b HL.out.lt)).out.mono ?_; rintro e w5 ⟨rfl, hb5⟩
    have b5 := hid (hI.out.b.trans (hb5.mono hI.out.b.size)); have x5 := hid (hI.out.k1.call hb5); have y5 := hid (hI.out.k2.call hb5)
    clear hb5
    have K := hid (Blk.new w5 #[.bool d, .int .i64 (v : Nat), .int .i64 (u : Nat)] 26)
    have B6 := hid (b5.out.alloc b5.out.size (.cells #[.bool d, .int .i64 (v : Nat), .int .i64 (u : Nat)] 26))
    have X6 := hid (x5.out.alloc (.cells #[.bool d, .int .i64 (v : Nat), .int .i64 (u : Nat)] 26))
    have Y6 := hid (y5.out.alloc (.cells #[.bool d, .int .i64 (v : Nat), .int .i64 (u : Nat)] 26))
    obtain ⟨w6, hw6⟩ : ∃ w6, w5.alloc (.cells #[.bool d, .int .i64 (v : Nat), .int .i64 (u : Nat)] 26) = w6 := ⟨_, rfl⟩
    obtain ⟨g6, hg6⟩ : ∃ g6, w5.heap.size = g6 := ⟨_, rfl⟩
    rw [hw6] at K B6 X6 Y6
    rw [hg6] at K
    have k0 := K.out.cell 0
    have k1 := K.out.cell 1
    have k2 := K.out.cell 2
    simp at k0 k1 k2
    have m0 : decide ((u : Int) < 0) = false := by simp
    have m1 : decide (((b.size - p : Nat) : Int) < (u : Int)) = false := by have := HLE.out; simp; omega
    have m2 : decide (b.size - p < u) = false := by have := HLE.out; simp; omega
    have m3 : IntKind.i64.wrap ((b.size : Int) - (p : Int)) = ((b.size - p : Nat) : Int) := by rw [IntWalk.i64_in _ ⟨by omega, by have := HB.out; omega⟩]; omega
    have hI' := hI
    cases d
    · have hs : s1 N D L 0 0 = none := by rw [← hI.out.eq]; exact s1_late (by rw [HC.out])
      have ho := HO.out; have hz := HZ.out
      rw [oneT, hs] at ho
      rw [twoT, hs] at hz
      dsimp only at ho hz
      rw [HLEN.out] at ho hz
      simp only [Prod.mk.injEq] at ho hz
      clear HO HZ hs
      obtain ⟨rfl, rfl, rfl⟩ := ho
      obtain ⟨rfl, rfl, rfl⟩ := hz
      have r0 := X6.out.cell 0
      have r1 := X6.out.cell 1
      have r2 := X6.out.cell 2
      have s0 := Y6.out.cell 0
      have s1 := Y6.out.cell 1
      have s2 := Y6.out.cell 2
      simp at r0 r1 r2 s0 s1 s2
      go_wp2_with fail
      go_ret
      exact ⟨rfl, B6.out⟩
    · obtain ⟨q, hq⟩ : ∃ q, p + u = q := ⟨_, rfl⟩
      have hqs : q ≤ b.size := by rw [← hq]; exact HLE.out
      have hnq : n ≤ q := by have := hI.out.np; omega
      have m4 : IntKind.i64.wrap ((p : Int) + (u : Int)) = (q : Int) := by rw [IntWalk.i64_in _ ⟨by omega, by have := HB.out; omega⟩]; omega
      by_cases hv : v = 1
      · subst hv
        have hc1 : (coinF N D L p).1 = true := by rw [HC.out]
        have hc2 : (coinF N D L p).2.1 = 1 := by rw [HC.out]
        have h1 := coinF_one HND.out hc1 hc2
        have h2 := s1_more HND.out (n := n) (by rw [HLEN.out]; exact hI.out.le) hc1 hc2
        rw [HC.out] at h1 h2
        dsimp only at h1 h2
        rw [hq] at h2
        have m5 : IntKind.i64.wrap ((n : Int) + 1) = ((n + 1 : Nat) : Int) := by rw [IntWalk.i64_in _ ⟨by omega, by have := HB.out; omega⟩]; omega
        have G' := hid (GcI.mk (S := s1 N D L) (sz := b.size) (n := n + 1) (p := q) (by have := hI.out.np; omega) hqs (by rw [← h2]; exact hI.out.eq) X6.out Y6.out B6.out)
        have HN := hid (show n < b.size by have := hI.out.np; omega)
        clear h1 h2 hc1 hc2 hq hqs hnq
        go_wp2_with fail
        go_roundw
        case rel => subst hw6; exact ⟨n + 1, q, by go_num, rfl, rfl, by go_num, G'⟩
        case measure => simp [intOf] <;> (have := HN.out; omega)
      · have hv0 : v = 0 := by have := HVL.out; omega
        subst hv0
        have e0 : ((0 : Nat) : Int) = 0 := rfl
        rw [e0] at hw6
        clear e0
        have hs : s1 N D L 0 0 = some (n, q) := by
          rw [← hI.out.eq, s1_stop (by rw [HC.out]) (by rw [HC.out]; simp), HC.out]
          dsimp only
          rw [hq]
        have ho := HO.out
        rw [oneT, hs] at ho
        dsimp only at ho
        simp only [Prod.mk.injEq] at ho
        clear HO
        obtain ⟨rfl, rfl, rfl⟩ := ho
        have O1 := fun V hV => HOne V q hqs hV
        have hz := HZ.out
        rw [twoT, hs] at hz
        dsimp only at hz
        have hdr := s1_drop HND.out (a := q) (by rw [HLEN.out]; exact hqs) L.length 0 0 (by rw [HLEN.out]; exact hqs) (by omega)
        rw [Nat.add_zero] at hdr
        rw [hdr] at hz
        clear HZ hdr hs hv
        have t3 : (0 : Int) ≤ (q : Int) := by omega
        have t4 : (q : Int) ≤ (b.size : Int) := by omega
        have HQS := hid hqs; have HNQ := hid hnq
        have r0 := X6.out.cell 0
        have r1 := X6.out.cell 1
        have r2 := X6.out.cell 2
        simp at r0 r1 r2
        clear hq hqs hnq HOne
        cases hT : s1 N D (L.drop q) 0 0 with
        | none =>
          rw [hT] at hz
          simp only [Option.map_none] at hz
          rw [HLEN.out] at hz
          simp only [Prod.mk.injEq] at hz
          obtain ⟨rfl, rfl, rfl⟩ := hz
          rw [oneT, hT] at O1
          dsimp only at O1
          obtain ⟨le, hle⟩ : ∃ le : Int, ((L.drop q).length : Int) = le := ⟨_, rfl⟩
          rw [hle] at O1
          clear hle hT
          go_wp2_with fail
          refine (O1 _ (HL.out.below B6.out HL.out.lt)).out.mono ?_; rintro e w7 ⟨rfl, hb7⟩
          have B7 := hid (B6.out.trans (hb7.mono B6.out.size)); have X7 := hid (X6.out.call hb7); have Y7 := hid (Y6.out.call hb7)
          clear hb7 r0 r1 r2 k0 k1 k2 K X6 Y6 B6 hw6 hg6
          have K8 := hid (Blk.new w7 #[.bool false, .int .i64 0, .int .i64 le] 26)
          have B8 := hid (B7.out.alloc B7.out.size (.cells #[.bool false, .int .i64 0, .int .i64 le] 26))
          have X8 := hid (X7.out.alloc (.cells #[.bool false, .int .i64 0, .int .i64 le] 26))
          have Y8 := hid (Y7.out.alloc (.cells #[.bool false, .int .i64 0, .int .i64 le] 26))
          have r0 := X8.out.cell 0
          have r1 := X8.out.cell 1
          have r2 := X8.out.cell 2
          have s0 := Y8.out.cell 0
          have s1 := Y8.out.cell 1
          have s2 := Y8.out.cell 2
          have k0 := K8.out.cell 0
          have k1 := K8.out.cell 1
          have k2 := K8.out.cell 2
          simp at r0 r1 r2 s0 s1 s2 k0 k1 k2
          go_wp2_with fail
          go_ret
          exact ⟨rfl, B8.out⟩
        | some ye =>
          obtain ⟨y, e⟩ := ye
          rw [hT] at hz
          simp only [Option.map_some] at hz
          simp only [Prod.mk.injEq] at hz
          obtain ⟨rfl, rfl, rfl⟩ := hz
          rw [oneT, hT] at O1
          dsimp only at O1
          have hyl := s1_le HND.out (L.drop q).length 0 0 y e (Nat.zero_le _) (by omega) hT
          have hdl : (L.drop q).length = b.size - q := by rw [List.length_drop, HLEN.out]
          have HY := hid (show y ≤ e ∧ e ≤ 256 by have := HB.out; omega)
          clear hT hyl hdl
          go_wp2_with fail
          refine (O1 _ (HL.out.below B6.out HL.out.lt)).out.mono ?_; rintro e' w7 ⟨rfl, hb7⟩
          have B7 := hid (B6.out.trans (hb7.mono B6.out.size)); have X7 := hid (X6.out.call hb7); have Y7 := hid (Y6.out.call hb7)
          clear hb7 r0 r1 r2 k0 k1 k2 K X6 Y6 B6 hw6 hg6
          have K8 := hid (Blk.new w7 #[.bool true, .int .i64 (y : Nat), .int .i64 (e : Nat)] 26)
          have B8 := hid (B7.out.alloc B7.out.size (.cells #[.bool true, .int .i64 (y : Nat), .int .i64 (e : Nat)] 26))
          have X8 := hid (X7.out.alloc (.cells #[.bool true, .int .i64 (y : Nat), .int .i64 (e : Nat)] 26))
          have Y8 := hid (Y7.out.alloc (.cells #[.bool true, .int .i64 (y : Nat), .int .i64 (e : Nat)] 26))
          have r0 := X8.out.cell 0
          have r1 := X8.out.cell 1
          have r2 := X8.out.cell 2
          have s0 := Y8.out.cell 0
          have s1 := Y8.out.cell 1
          have s2 := Y8.out.cell 2
          have k0 := K8.out.cell 0
          have k1 := K8.out.cell 1
          have k2 := K8.out.cell 2
          simp at r0 r1 r2 s0 s1 s2 k0 k1 k2
          have m6 : IntKind.i64.wrap ((n : Int) - (y : Int)) = (n : Int) - (y : Int) := by rw [IntWalk.i64_in _ ⟨by have := HY.out; omega, by have := HY.out; have := HB.out; have := HNQ.out; have := HQS.out; omega⟩]
          have m7 : IntKind.i64.wrap ((q : Int) + (e : Int)) = (q : Int) + (e : Int) := by rw [IntWalk.i64_in _ ⟨by omega, by have := HY.out; have := HB.out; have := HQS.out; omega⟩]
          go_wp2_with fail
          go_ret
          exact ⟨rfl, B8.out⟩

/-- GeomCoins returns true, and changes nothing of the caller's. -/
theorem w_GeomCoins (w : World) (a b : ByteArray) (hL : Lay w) :
    Calls Tryz.prog 3 #[.string a, .string b] w fun e w' => e = .returned (.bool true) ∧ Below w.heap.size w w' := by
  by_cases ha : a.size ≤ 100
  · by_cases hb : b.size ≤ 256
    · by_cases he : gE a b = 0
      · exact gc_ok w a b ha hb he hL
      · exact gc_bad w a b ha hb he hL
    · exact gc_big w a b (.inr ⟨ha, by omega⟩) hL
  · exact gc_big w a b (.inl (by omega)) hL
end Go.Proofs.YtikfgddgfddbaaaGreatDoor

/- GeomCoins: the row and the tied card. The join of the walk w_GeomCoins with the given row. -/
namespace Go.Proofs.YtikfgddgfddbaaaGreatDoor
open Go.ChangeShapes Go.WideShapes Go.ChangeAt Go.RowKit
open Go.ChangeMaps (open_string shut_string)
set_option linter.unusedVariables false

theorem pow10_type : (Tryz.prog.globals[1]?).map (·.type) = some 205 := by kernel_rfl
theorem pow10_cells : Tryz.prog.cellsOf 205 = 20 := by kernel_rfl
theorem pow10_cell : Tryz.prog.cellsOf 112 = 1 := by kernel_rfl

/-- What the row's condition and the world's shape give the walks. -/
theorem lay_of {W : World} (h : laidMetH Tryz.prog Rows.geomCoinsRow.laid W) (hsh : W.ShapedOpen Tryz.prog) : Lay W := by
  refine ⟨?_, ?_⟩
  · rw [MakeChecks.laidMetH_plain _ _ _ (by kernel_rfl)] at h
    obtain ⟨ps, ⟨g0, t0, cs0, f0, p0, q0, hg0, ht0, hv0, hd0, ⟨g1, t1, cs1, f1, p1, q1, hg1, ht1, hv1, hd1, ⟨g2, t2, cs2, f2, p2, q2, hg2, ht2, hv2, hd2, _, _⟩, _⟩, _⟩, _, _⟩ := h
    obtain rfl := Option.some.inj (tab_at.symm.trans hg2)
    obtain rfl := Option.some.inj (pow10_type.symm.trans ht2)
    have e : (Rows.laid_internal_strconv_uint64pow10 : DataW Unit) = Lib.tabData .u64 Lib.pow10Tab := by kernel_rfl
    have hd : DataW.trod (fun _ => ()) Tryz.prog W 0 (fun _ => true) false f2 205 cs2.toList = some (Lib.tabData .u64 Lib.pow10Tab, p2) := by rw [← e]; exact hd2
    unfold Lib.TabIs
    rw [hv2, ← Lib.cells_of_tab Tryz.underlying205 Tryz.underlying112 pow10_cell pow10_cells hd]
  · exact cell_of_shapedOpen_int (zero := #[.int .i64 0]) (t := 3) hsh (of_decide_eq_true (by kernel_rfl)) (by kernel_rfl) rfl (by kernel_rfl) (by kernel_rfl) Tryz.underlying3

theorem own : ownKnob Tryz.prog.godebug = none := by kernel_rfl
theorem laidOut : laidOutB Tryz.prog = true := by kernel_rfl
end Go.Proofs.YtikfgddgfddbaaaGreatDoor

/- GeomCoins: the row and the tied card. -/
namespace Go.Proofs.YtikfgddgfddbaaaGreatDoor
open Go.ChangeShapes Go.WideShapes Go.ChangeAt Go.RowKit
open Go.ChangeMaps (open_string shut_string)
set_option linter.unusedVariables false

set_option maxRecDepth 100000 in
set_option maxHeartbeats 1000000 in
theorem gc_lifted (os : Os) (started : os.Started) (H : Type) (enc : TypeId × Value → H) (F : Stop.Interp) :
    ReturnsInHanded {} Tryz.checked os 3 .any ((OpenSpec.ofChange Rows.geomCoinsSpec).preRow enc Tryz.prog Tryz.f3 Rows.geomCoinsRow.domain false Rows.geomCoinsRow.laid)
      (((OpenSpec.ofChange Rows.geomCoinsSpec).at F).post enc Tryz.prog Tryz.f3 false true false false) := by
  refine returnsInHanded_of_row (C := Tryz.checked) (s := OpenSpec.ofChange Rows.geomCoinsSpec) own started (by kernel_rfl) Tryz.func3
    (ChangeSpec.witness_shaped (enc := enc) (C := Tryz.checked) (os := os) (s := Rows.geomCoinsSpec) (conds := Rows.geomCoinsRow.domain) (fn := Tryz.f3) (X := fun w _ => laidMetH Tryz.prog Rows.geomCoinsRow.laid w) false (World.laidAll Tryz.prog os Rows.geomCoinsRow.laid) #[.string ByteArray.empty, .string ByteArray.empty] 8 (World.laidAll_os _ _ _)
      (World.shaped_of_ZipB (by kernel_rfl) (by kernel_rfl)) (by kernel_rfl) (by kernel_rfl) (by kernel_rfl)
      (by rw [MakeChecks.laidMetH_plain _ _ _ (by kernel_rfl)]; exact laidMet_laidAll _ (by kernel_rfl) (by kernel_rfl))) ?_
  intro W base args ds gs before hval0 hW _ _ _ hL hsh _
  have hval : ∀ (j : Nat) t v, Tryz.f3.params[j]? = some t → args[j]? = some v → Value.okWide Tryz.prog W .any base t v := hval0
  have hW' := hW
  obtain ⟨p, q, hA0, hV, rfl, hfz, hnd⟩ := hW
  have hA : DataW.TrodAll enc Tryz.prog W 0 (fun _ => true) true Tryz.f3.params.toList args.toList ds p := hA0
  rw [Tryz.params3] at hA hval
  obtain ⟨v0, v1, d0, d1, p0, p1, rfl, rfl, rfl, h0, h1⟩ := trodAll_two hA
  obtain ⟨rfl, rfl⟩ := trodVars_none hV
  have k0 := h0
  have k1 := h1
  have lt0 : ∀ x ∈ p0, x.block < W.heap.size := by obtain ⟨m, hm⟩ := k0; exact DataW.trod_lt m _ _ _ hm
  have lt1 : ∀ x ∈ p1, x.block < W.heap.size := by obtain ⟨m, hm⟩ := k1; exact DataW.trod_lt m _ _ _ hm
  obtain ⟨a0, rfl, rfl, rfl, w0⟩ := open_string Tryz.underlying22 (hval 0 22 v0 rfl rfl) h0
  obtain ⟨a1, rfl, rfl, rfl, w1⟩ := open_string Tryz.underlying23 (hval 1 23 v1 rfl rfl) h1
  clear hA0 hval0
  refine (w_GeomCoins W a0 a1 (lay_of hL hsh)).mono fun e W' ⟨he, bel⟩ => ?_
  subst he
  exact ⟨_, rfl, _, _, _, [], _, [], hW', trodAll_mk1 (shut_bool Tryz.underlying4 _), (trodAll_mk2 (Below.trod laidOut (by kernel_rfl) (of_decide_eq_true (by kernel_rfl)) k0 bel lt0) (Below.trod laidOut (by kernel_rfl) (of_decide_eq_true (by kernel_rfl)) k1 bel lt1)), rfl, bel.frame _, fun h => by cases h⟩

theorem gc_holds : Rows.geomCoinsRow.holds Tryz.pinned (OpenSpec.ofChange Rows.geomCoinsSpec) :=
  OpenClaim.holds_of_cond 3 Tryz.f3 rfl rfl rfl rfl rfl rfl rfl ⟨rfl, rfl, rfl, rfl, rfl⟩ rfl rfl rfl rfl rfl (by kernel_rfl) Tryz.func3 (by kernel_rfl)
    (of_decide_eq_true (by kernel_rfl)) (by unfold Func.isWrapper; first | (rw [if_pos (by decide +kernel)]; kernel_rfl) | (rw [if_neg (by decide +kernel)]; exact ⟨rfl, rfl⟩))
    (fun os started H enc _ F0 => by rw [OpenClaim.pre_eq_preRow]; exact gc_lifted os started H enc F0)

theorem geomCoins_card : Rows.GeomCoinsCardSaid :=
  Claim7.holds_tied_plain_at .later [] [.data, .data, .data, .data, .sentinel, .sentinel, .pinned] true Rows.geomCoinsCard.stood.harness true
    gc_holds (fun _ h => by cases h) (by kernel_rfl) (fun _ h => by cases h) geomCoins_row_tie rfl ⟨rfl, rfl⟩ (by kernel_rfl) rfl
    (fun f fn hf hfn => by
      obtain rfl : f = 3 := Option.some.inj ((show Tryz.prog.funcNamed "privhouse/privhouselaw06.GeomCoins" = some 3 by kernel_rfl).symm.trans hf) |>.symm
      obtain rfl : fn = Tryz.f3 := (Option.some.inj (Tryz.func3.symm.trans hfn)).symm
      exact ⟨by kernel_rfl, fun j t ht => by
        rw [Tryz.params3] at ht
        have hm : t ∈ [22, 23] := by simpa using Array.mem_of_getElem? ht
        have hall : ([22, 23].all fun u => !Tryz.prog.wantsStandIn u) = true := by kernel_rfl
        exact (show Tryz.prog.wantsStandIn t = false by simpa using List.all_eq_true.1 hall t hm)⟩)
    (by kernel_rfl)
#print axioms geomCoins_card
end Go.Proofs.YtikfgddgfddbaaaGreatDoor
