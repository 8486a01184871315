/- Texts that the proof rests on, merged: Fr1, Fr3, Rt1, Mk, Pw1, Pw2, Np, Pl1, Pl2, Pl3, LyS, CdB, Pc0, Cv1, Tot, Cv2, Sh4, G1c, G2, QD, G3, G4, G5, C1, C2h, C2, Coin2, Coins. -/
import Derived.Test.YtgphopkifomffaaGreatDoorMn3
import Derived.Deep.RegionHeld3
import Derived.WalkSmall
import Derived.Maps.Own
import Derived.Maps.OwnIn
import Derived.Sort.CutIn
import Derived.Lib.SmallJoins
import Derived.Shelf.Small.Wraps
import Derived.Shelf.Strings.Shaped
import Derived.Ground.NamesProg
import Derived.Test.YtgphopkifomffaaGreatDoorProg
namespace Go.Proofs.YtgphopkifomffaaGreatDoor
open Go.RowKit
open Go.Lib (decDigits nDigits)
set_option linter.unusedVariables false
set_option maxHeartbeats 1000000 in
theorem f_Zero (w : World) : Calls Tryz.prog 166 #[] w fun e w' => RetQ .u64 0 e w' ∧ Below w.heap.size w w' := by
  go_enter Tryz.func166, Tryz.ntmps166
  go_wp2_with fail
  refine (l_Of _ 1 (by omega)).mono ?_; rintro e w1 ⟨⟨v1, rfl, hv1⟩, hb1⟩
  obtain ⟨a3, c3, rfl, _⟩ := hv1.openI
  have HV := hid hv1
  have HB := hid (show Blk w1 w.heap.size #[.bool false, .slice none 0 0, .slice none 0 0] 101 from (Blk.new w _ _).call hb1)
  have d0 := HB.out.cell 0
  have d1 := HB.out.cell 1
  have d2 := HB.out.cell 2
  have e0 := HB.out.free 0
  have e1 := HB.out.free 1
  have e2 := HB.out.free 2
  have HBB := hid hb1
  clear hb1 hv1
  simp at d0 d1 d2
  go_wp2_with fail
  obtain ⟨s1, s2⟩ := set3 HB.out false none a3 0 0 (limbs 1).length c3
  have f0 := s2.cell 0
  have f1 := s2.cell 1
  have f2 := s2.cell 2
  simp at f0 f1 f2
  refine bodyPost_ret (v := .agg #[.bool false, .slice none 0 0, .slice a3 (limbs 1).length c3]) (by simp [results, Tryz.results166, go_sem, f0, f1, f2]) rfl ⟨⟨_, rfl, IsQ.zero_ (s1 _ _ _ (IsN.zero _ _)) (s1 _ _ _ HV.out)⟩, ?_⟩
  exact (((((Below.refl _ _).alloc (Nat.le_refl _) _).trans (HBB.out.mono (by simp))).setCell (Nat.le_refl _) _).setCell (Nat.le_refl _) _).setCell (Nat.le_refl _) _
theorem qmk_red {m : Bool} {n d : Nat} (hn : 0 < n) (hd : 0 < d) {k : IntKind} {w : World} {N D : Value} (hg : Nat.gcd n d = 1) (h1 : IsN k w N n) (h2 : IsN k w D d) : IsQ k w (.agg #[.bool m, N, D]) (qmk m n d) :=
  IsQ.mk' hn hd (by rw [hg, Nat.div_one]; exact h1) (by rw [hg, Nat.div_one]; exact h2)
set_option maxRecDepth 100000 in
set_option maxHeartbeats 2000000 in
theorem f_Make (w : World) (m : Bool) (v u : Value) (n d : Nat) (hn : IsN .u64 w v n) (hd : IsN .u64 w u d) (h0 : 0 < d) (hln : (limbs n).length ≤ 1000000) (hld : (limbs d).length ≤ 1000000) :
    Calls Tryz.prog 110 #[.bool m, v, u] w fun e w' => RetQ .u64 (qmk m n d) e w' ∧ Below w.heap.size w w' := by
  have HN := hid hn; have HD := hid hd
  obtain ⟨a1, c1, rfl, _⟩ := hn.openI
  obtain ⟨a2, c2, rfl, _⟩ := hd.openI
  obtain ⟨k1, hk1⟩ : ∃ k, (limbs n).length = k := ⟨_, rfl⟩
  obtain ⟨k2, hk2⟩ : ∃ k, (limbs d).length = k := ⟨_, rfl⟩
  have LN := hid hln; have LD := hid hld; have H0 := hid h0
  rw [hk1] at HN ⊢
  rw [hk2] at HD ⊢
  have b0 := hid ((Below.refl w.heap.size w).alloc (Nat.le_refl _) (.cells #[.bool false, .slice none 0 0, .slice none 0 0] 101))
  have x0 := hid (Blk.new w #[.bool false, .slice none 0 0, .slice none 0 0] 101)
  have N0 := hid (HN.out.call b0.out); have D0 := hid (HD.out.call b0.out)
  clear hn hd hln hld h0 hk1 hk2
  rcases Nat.eq_zero_or_pos n with rfl | hp
  · have hq := hid (qmk_zero m d)
    rw [hq.out]
    have hz : isZ 0 = true := rfl
    go_enter Tryz.func110, Tryz.ntmps110
    go_wp2_with fail
    refine (l_Zero _ _ _ N0.out).mono ?_; rintro e w1 ⟨rfl, rfl⟩
    rw [hz]
    clear hz
    go_wp2_with fail
    refine (f_Zero _).mono ?_; rintro e w1 ⟨⟨v1, rfl, hv1⟩, hb1⟩
    obtain ⟨M, D, rfl, h2, h3⟩ := hv1.ex
    obtain ⟨a3, c3, rfl, _⟩ := h2.openI
    obtain ⟨a4, c4, rfl, _⟩ := h3.openI
    have hm : decide ((0 : Rat).num < 0) = false := rfl
    rw [hm]
    have HB := hid (x0.out.call hb1)
    have BB := hid (bnext b0.out hb1)
    have d0 := HB.out.cell 0
    have d1 := HB.out.cell 1
    have d2 := HB.out.cell 2
    have e0 := HB.out.free 0
    have e1 := HB.out.free 1
    have e2 := HB.out.free 2
    have H2 := hid h2; have H3 := hid h3
    clear hb1 hv1 h2 h3 hm
    simp at d0 d1 d2
    obtain ⟨l1, hl1⟩ : ∃ k, (limbs (0 : Rat).num.natAbs).length = k := ⟨_, rfl⟩
    obtain ⟨l2, hl2⟩ : ∃ k, (limbs (0 : Rat).den).length = k := ⟨_, rfl⟩
    rw [hl1] at H2 ⊢
    rw [hl2] at H3 ⊢
    clear hl1 hl2
    go_wp2_with fail
    obtain ⟨s1, s2⟩ := set3 HB.out false a3 a4 l1 c3 l2 c4
    have f0 := s2.cell 0
    have f1 := s2.cell 1
    have f2 := s2.cell 2
    simp at f0 f1 f2
    refine bodyPost_ret (v := .agg #[.bool false, .slice a3 l1 c3, .slice a4 l2 c4]) (by simp [results, Tryz.results110, go_sem, f0, f1, f2]) rfl ⟨⟨_, rfl, ⟨_, _, rfl, s1 _ _ _ H2.out, s1 _ _ _ H3.out⟩⟩, ?_⟩
    exact ((BB.out.setCell (Nat.le_refl _) _).setCell (Nat.le_refl _) _).setCell (Nat.le_refl _) _
  · have hz : isZ n = false := by unfold isZ; simpa using (by omega : n ≠ 0)
    have HP := hid hp
    clear hp
    by_cases h1 : d = 1
    · have ho : isO d = true := isO_iff.2 h1
      have HG := hid (show Nat.gcd n d = 1 by rw [h1, Nat.gcd_one_right])
      clear h1
      go_enter Tryz.func110, Tryz.ntmps110
      go_wp2_with fail
      refine (l_Zero _ _ _ N0.out).mono ?_; rintro e w1 ⟨rfl, rfl⟩
      rw [hz]
      clear hz
      go_wp2_with fail
      refine (l_One _ _ _ D0.out).mono ?_; rintro e w1 ⟨rfl, rfl⟩
      rw [ho]
      clear ho
      go_wp2_with fail
      have hB := Blk.new w #[.bool m, .slice a1 k1 c1, .slice a2 k2 c2] 101
      have f0 := hB.cell 0
      have f1 := hB.cell 1
      have f2 := hB.cell 2
      simp at f0 f1 f2
      have b1 := (Below.refl w.heap.size w).alloc (Nat.le_refl _) (.cells #[.bool m, .slice a1 k1 c1, .slice a2 k2 c2] 101)
      refine bodyPost_ret (v := .agg #[.bool m, .slice a1 k1 c1, .slice a2 k2 c2]) (by simp [results, Tryz.results110, go_sem]) rfl ⟨⟨_, rfl, qmk_red HP.out H0.out HG.out (HN.out.call b1) (HD.out.call b1)⟩, b1⟩
    · have ho : isO d = false := by unfold isO; simpa using h1
      obtain ⟨g, hg⟩ : ∃ g, Nat.gcd n d = g := ⟨_, rfl⟩
      have hgp : 0 < g := hg ▸ Nat.gcd_pos_of_pos_left d HP.out
      have HG := hid hg; have HGP := hid hgp
      clear h1 hg hgp
      go_enter Tryz.func110, Tryz.ntmps110
      go_wp2_with fail
      refine (l_Zero _ _ _ N0.out).mono ?_; rintro e w1 ⟨rfl, rfl⟩
      rw [hz]
      clear hz
      go_wp2_with fail
      refine (l_One _ _ _ D0.out).mono ?_; rintro e w1 ⟨rfl, rfl⟩
      rw [ho]
      clear ho
      go_wp2_with fail
      refine (l_Gcd _ _ _ _ _ N0.out D0.out LN.out LD.out).mono ?_
      rintro e w1 ⟨⟨v1, rfl, hv1⟩, hb1⟩
      rw [HG.out] at hv1
      have x1 := hid (x0.out.call hb1)
      have b1 := hid (bnext b0.out hb1)
      have N1 := hid (N0.out.call hb1); have D1 := hid (D0.out.call hb1); have G1 := hid hv1
      clear hb1 hv1
      obtain ⟨a5, c5, rfl, _⟩ := G1.out.openI
      obtain ⟨k5, hk5⟩ : ∃ k, (limbs g).length = k := ⟨_, rfl⟩
      rw [hk5] at G1 ⊢
      clear hk5
      go_wp2_with fail
      refine (l_One _ _ _ G1.out).mono ?_; rintro e w2 ⟨rfl, rfl⟩
      by_cases hg1 : g = 1
      · have ho : isO g = true := isO_iff.2 hg1
        have HG1 := hid (show Nat.gcd n d = 1 by rw [HG.out, hg1])
        rw [ho]
        have d0 := x1.out.cell 0
        have d1 := x1.out.cell 1
        have d2 := x1.out.cell 2
        have e0 := x1.out.free 0
        have e1 := x1.out.free 1
        have e2 := x1.out.free 2
        simp at d0 d1 d2
        clear ho hg1
        go_wp2_with fail
        obtain ⟨s1, s2⟩ := set3 x1.out m a1 a2 k1 c1 k2 c2
        have f0 := s2.cell 0
        have f1 := s2.cell 1
        have f2 := s2.cell 2
        simp at f0 f1 f2
        refine bodyPost_ret (v := .agg #[.bool m, .slice a1 k1 c1, .slice a2 k2 c2]) (by simp [results, Tryz.results110, go_sem, f0, f1, f2]) rfl ⟨⟨_, rfl, qmk_red HP.out H0.out HG1.out (s1 _ _ _ N1.out) (s1 _ _ _ D1.out)⟩, ?_⟩
        exact ((b1.out.setCell (Nat.le_refl _) _).setCell (Nat.le_refl _) _).setCell (Nat.le_refl _) _
      · have ho : isO g = false := by unfold isO; simpa using hg1
        rw [ho]
        clear ho hg1
        go_wp2_with fail
        refine (l_DivMod _ _ _ n g N1.out G1.out HGP.out LN.out).mono ?_
        rintro e w2 ⟨⟨v2, v3, rfl, hv2, -⟩, hb2⟩
        have x2 := hid (x1.out.call hb2); have b2 := hid (bnext b1.out hb2); have D2 := hid (D1.out.call hb2); have G2 := hid (G1.out.call hb2); have V2 := hid hv2
        clear hb2 hv2
        go_wp2_with fail
        refine (l_DivMod _ _ _ d g D2.out G2.out HGP.out LD.out).mono ?_
        rintro e w3 ⟨⟨v4, v5, rfl, hv4, -⟩, hb3⟩
        have x3 := hid (x2.out.call hb3); have b3 := hid (bnext b2.out hb3); have W2 := hid (V2.out.call hb3); have W4 := hid hv4
        clear hb3 hv4
        obtain ⟨a6, c6, rfl, _⟩ := W2.out.openI
        obtain ⟨a7, c7, rfl, _⟩ := W4.out.openI
        have d0 := x3.out.cell 0
        have d1 := x3.out.cell 1
        have d2 := x3.out.cell 2
        have e0 := x3.out.free 0
        have e1 := x3.out.free 1
        have e2 := x3.out.free 2
        simp at d0 d1 d2
        go_wp2_with fail
        obtain ⟨s1, s2⟩ := set3 x3.out m a6 a7 (limbs (n / g)).length c6 (limbs (d / g)).length c7
        have f0 := s2.cell 0
        have f1 := s2.cell 1
        have f2 := s2.cell 2
        simp at f0 f1 f2
        refine bodyPost_ret (v := .agg #[.bool m, .slice a6 (limbs (n / g)).length c6, .slice a7 (limbs (d / g)).length c7]) (by simp [results, Tryz.results110, go_sem, f0, f1, f2]) rfl ⟨⟨_, rfl, IsQ.mk' HP.out H0.out (HG.out ▸ s1 _ _ _ W2.out) (HG.out ▸ s1 _ _ _ W4.out)⟩, ?_⟩
        exact ((b3.out.setCell (Nat.le_refl _) _).setCell (Nat.le_refl _) _).setCell (Nat.le_refl _) _
end Go.Proofs.YtgphopkifomffaaGreatDoor
namespace Go.Proofs.YtgphopkifomffaaGreatDoor
open Go.RowKit
open Go.Lib (decDigits nDigits)
set_option linter.unusedVariables false
set_option linter.unusedSimpArgs false
theorem outB_ov {q : Rat} (h : ovQ q) : outB q = ⟨#[]⟩ := if_pos h
theorem outB_ok {q : Rat} (h : ¬ ovQ q) : outB q = txQ q := if_neg h
theorem outE_ov {q : Rat} (h : ovQ q) : outE q = 5 := if_pos h
theorem outE_ok {q : Rat} (h : ¬ ovQ q) : outE q = 0 := if_neg h
theorem ba_append (a b : ByteArray) : (a ++ b).data.toList = a.data.toList ++ b.data.toList := by simp
theorem txB_ff (n : Nat) : txB false n 1 = numB n := by apply ba_ext; simp [txB, numB]
theorem txB_tf (n : Nat) : txB true n 1 = ⟨#[45]⟩ ++ numB n := by apply ba_ext; rw [ba_append, txB_list, numB_list]; simp
theorem txB_ft (n d : Nat) (h : d ≠ 1) : txB false n d = numB n ++ (⟨#[47]⟩ ++ numB d) := by apply ba_ext; rw [ba_append, ba_append, txB_list, numB_list, numB_list, if_neg h]; simp
theorem txB_tt (n d : Nat) (h : d ≠ 1) : txB true n d = ⟨#[45]⟩ ++ numB n ++ (⟨#[47]⟩ ++ numB d) := by apply ba_ext; rw [ba_append, ba_append, ba_append, txB_list, numB_list, numB_list, if_neg h]; simp
set_option maxRecDepth 100000 in
set_option maxHeartbeats 2000000 in
theorem f_Num (w : World) (v : Value) (q : Rat) (h : IsQ .u64 w v q) (h1 : (limbs q.num.natAbs).length ≤ 1000000) (h2 : (limbs q.den).length ≤ 1000000) (hL : Lay w) :
    Calls Tryz.prog 61 #[v] w fun e w' => e = .returned (.tuple #[.string (outB q), .int .i64 (outE q)]) ∧ Below w.heap.size w w' := by
  obtain ⟨N, D, rfl, hn, hd⟩ := h.ex
  obtain ⟨m, hm⟩ : ∃ m, decide (q.num < 0) = m := ⟨_, rfl⟩
  have HN := hid hn; have HD := hid hd; have HM := hid hm; have HL := hid hL; have L1 := hid h1; have L2 := hid h2
  rw [hm]
  obtain ⟨a1, c1, rfl, _⟩ := hn.openI
  obtain ⟨a2, c2, rfl, _⟩ := hd.openI
  obtain ⟨k1, hk1⟩ : ∃ k, (limbs q.num.natAbs).length = k := ⟨_, rfl⟩
  obtain ⟨k2, hk2⟩ : ∃ k, (limbs q.den).length = k := ⟨_, rfl⟩
  rw [hk1] at HN ⊢
  rw [hk2] at HD ⊢
  have b0 := hid ((Below.refl w.heap.size w).alloc (Nat.le_refl _) (.cells #[.bool m, .slice a1 k1 c1, .slice a2 k2 c2] 101))
  have x0 := hid (Blk.new w #[.bool m, .slice a1 k1 c1, .slice a2 k2 c2] 101)
  have N0 := hid (HN.out.call b0.out); have D0 := hid (HD.out.call b0.out)
  clear hn hd hm h hk1 hk2 hL h1 h2
  by_cases o1 : 4000 < nDigits q.num.natAbs
  · have ho : ovQ q := .inl o1
    rw [outB_ov ho, outE_ov ho]
    have q0 : decide ((4000 : Int) < (nDigits q.num.natAbs : Nat)) = true := by simp; omega
    clear o1 ho
    go_enter Tryz.func61, Tryz.ntmps61
    go_wp2_with fail
    refine (l_Digits _ _ _ N0.out (HL.out.call b0.out) L1.out).mono ?_; rintro e w1 ⟨rfl, hb1⟩
    have b1 := hid (bnext b0.out hb1); clear hb1
    go_wp2_with fail
    go_ret2
    exact ⟨rfl, b1.out⟩
  · have q0 : decide ((4000 : Int) < (nDigits q.num.natAbs : Nat)) = false := by simp; omega
    by_cases o2 : 4000 < nDigits q.den
    · have ho : ovQ q := .inr o2
      rw [outB_ov ho, outE_ov ho]
      have q1 : decide ((4000 : Int) < (nDigits q.den : Nat)) = true := by simp; omega
      clear o1 ho o2
      go_enter Tryz.func61, Tryz.ntmps61
      go_wp2_with fail
      refine (l_Digits _ _ _ N0.out (HL.out.call b0.out) L1.out).mono ?_; rintro e w1 ⟨rfl, hb1⟩
      have b1 := hid (bnext b0.out hb1); have D1 := hid (D0.out.call hb1)
      have x1 := x0.out.call hb1
      have r2 := x1.cell 2
      simp at r2
      clear hb1 x1
      go_wp2_with fail
      refine (l_Digits _ _ _ D1.out (HL.out.call b1.out) L2.out).mono ?_; rintro e w2 ⟨rfl, hb2⟩
      have b2 := hid (bnext b1.out hb2); clear hb2 r2
      go_wp2_with fail
      go_ret2
      exact ⟨rfl, b2.out⟩
    · have ho : ¬ ovQ q := fun h => h.elim o1 o2
      rw [outB_ok ho, outE_ok ho]
      have q1 : decide ((4000 : Int) < (nDigits q.den : Nat)) = false := by simp; omega
      obtain ⟨z, hz⟩ : ∃ z, isO q.den = z := ⟨_, rfl⟩
      have HO := fun W h => hid (l_One W (.slice a2 k2 c2) q.den h)
      rw [hz] at HO
      have HT : Hid (txQ q = txB m q.num.natAbs q.den) := by rw [← HM.out]; rfl
      have HZ := hid hz
      rw [HT.out]
      obtain ⟨T, hT⟩ : ∃ T, txB m q.num.natAbs q.den = T := ⟨_, rfl⟩
      have HTT := hid hT
      rw [hT]
      have HS1 := fun W hv hL => hid (l_String W (.slice a1 k1 c1) q.num.natAbs hv hL L1.out)
      have HS2 := fun W hv hL => hid (l_String W (.slice a2 k2 c2) q.den hv hL L2.out)
      have en : (⟨(Lib.decDigits q.num.natAbs).toArray⟩ : ByteArray) = numB q.num.natAbs := rfl
      have ed : (⟨(Lib.decDigits q.den).toArray⟩ : ByteArray) = numB q.den := rfl
      rw [en] at HS1
      rw [ed] at HS2
      obtain ⟨sn, hsn⟩ : ∃ s, numB q.num.natAbs = s := ⟨_, rfl⟩
      obtain ⟨sd, hsd⟩ : ∃ s, numB q.den = s := ⟨_, rfl⟩
      rw [hsn] at HS1
      rw [hsd] at HS2
      have HSN := hid hsn; have HSD := hid hsd
      have hs1 : sn.size ≤ 4000 := by rw [← hsn, numB_size]; omega
      have hs2 : sd.size ≤ 4000 := by rw [← hsd, numB_size]; omega
      clear o1 ho o2 hT hz en ed hsn hsd
      go_enter Tryz.func61, Tryz.ntmps61
      go_wp2_with fail
      refine (l_Digits _ _ _ N0.out (HL.out.call b0.out) L1.out).mono ?_; rintro e w1 ⟨rfl, hb1⟩
      have b1 := hid (bnext b0.out hb1); have D1 := hid (D0.out.call hb1); have x1 := hid (x0.out.call hb1); have N1 := hid (N0.out.call hb1)
      have r2 := x1.out.cell 2
      simp at r2
      clear hb1
      go_wp2_with fail
      refine (l_Digits _ _ _ D1.out (HL.out.call b1.out) L2.out).mono ?_; rintro e w2 ⟨rfl, hb2⟩
      have b2 := hid (bnext b1.out hb2); have D2 := hid (D1.out.call hb2); have x2 := hid (x1.out.call hb2); have N2 := hid (N1.out.call hb2)
      have r1 := x2.out.cell 1
      simp at r1
      clear hb2 r2
      go_wp2_with fail
      refine (HS1 _ N2.out (HL.out.call b2.out)).out.mono ?_; rintro e w3 ⟨rfl, hb3⟩
      have b3 := hid (bnext b2.out hb3); have D3 := hid (D2.out.call hb3); have x3 := hid (x2.out.call hb3)
      have r0 := x3.out.cell 0
      have r2 := x3.out.cell 2
      simp at r0 r2
      clear hb3 r1 HS1
      cases m
      · go_wp2_with fail
        refine (HO _ D3.out).out.mono ?_; rintro e w4 ⟨rfl, rfl⟩
        cases z
        · go_wp2_with fail
          refine (HS2 _ D3.out (HL.out.call b3.out)).out.mono ?_; rintro e w5 ⟨rfl, hb5⟩
          have b5 := hid (bnext b3.out hb5); clear hb5 r0 r2
          go_wp2_with fail
          go_ret2
          have hTe : T = sn ++ (⟨#[47]⟩ ++ sd) := by rw [← HTT.out, txB_ft _ _ (of_decide_eq_false HZ.out), HSN.out, HSD.out]
          exact ⟨by rw [hTe]; rfl, b5.out⟩
        · go_wp2_with fail
          go_ret2
          have hTe : T = sn := by rw [← HTT.out, isO_iff.1 HZ.out, txB_ff, HSN.out]
          exact ⟨by rw [hTe]; rfl, b3.out⟩
      · go_wp2_with fail
        refine (HO _ D3.out).out.mono ?_; rintro e w4 ⟨rfl, rfl⟩
        cases z
        · go_wp2_with fail
          refine (HS2 _ D3.out (HL.out.call b3.out)).out.mono ?_; rintro e w5 ⟨rfl, hb5⟩
          have b5 := hid (bnext b3.out hb5); clear hb5 r0 r2
          go_wp2_with fail
          go_ret2
          have hTe : T = ⟨#[45]⟩ ++ sn ++ (⟨#[47]⟩ ++ sd) := by rw [← HTT.out, txB_tt _ _ (of_decide_eq_false HZ.out), HSN.out, HSD.out]
          exact ⟨by rw [hTe]; rfl, b5.out⟩
        · go_wp2_with fail
          go_ret2
          have hTe : T = ⟨#[45]⟩ ++ sn := by rw [← HTT.out, isO_iff.1 HZ.out, txB_tf, HSN.out]
          exact ⟨by rw [hTe]; rfl, b3.out⟩
end Go.Proofs.YtgphopkifomffaaGreatDoor
namespace Go.Proofs.YtgphopkifomffaaGreatDoor
open Go.RowKit
open Go.Lib (decDigits nDigits)
set_option linter.unusedVariables false
set_option linter.unusedSimpArgs false
def mkE (n d : ByteArray) : Int := if iB n = false then 3 else if 4000 < (iD n).size then 5 else if errN d.data.toList ≠ 0 then errN d.data.toList else if d = ⟨#[48]⟩ then 6 else outE (qmk (iM n) (bN (iD n)) (bN d))
def mkB (n d : ByteArray) : ByteArray := if iB n = false then ⟨#[]⟩ else if 4000 < (iD n).size then ⟨#[]⟩ else if errN d.data.toList ≠ 0 then ⟨#[]⟩ else if d = ⟨#[48]⟩ then ⟨#[]⟩ else outB (qmk (iM n) (bN (iD n)) (bN d))
theorem qmk_len {m : Bool} {n d L : Nat} (hd : 0 < d) (h1 : (limbs n).length ≤ L) (h2 : (limbs d).length ≤ L) : (limbs (qmk m n d).num.natAbs).length ≤ L ∧ (limbs (qmk m n d).den).length ≤ L := by
  rw [qmk_num hd, qmk_den hd, sgn_natAbs]
  exact ⟨Nat.le_trans (limbs_length_mono (Nat.div_le_self _ _)) h1, Nat.le_trans (limbs_length_mono (Nat.div_le_self _ _)) h2⟩
set_option maxRecDepth 100000 in
set_option maxHeartbeats 2000000 in
theorem q_Make (w : World) (n d : ByteArray) (hn : n.size ≤ 1000000) (hd : d.size ≤ 1000000) (hL : Lay w) :
    Calls Tryz.prog 98 #[.string n, .string d] w fun e w' => e = .returned (.tuple #[.string (mkB n d), .int .i64 (mkE n d)]) ∧ Below w.heap.size w w' := by
  have HL := hid hL
  have hz := iD_size n
  have HI := fun V => hid (f_Integer V n (by omega))
  have HC := fun V => hid (n_Check V d (by omega))
  have HP1 := fun V h => hid (l_Parse V (iD n) h (by omega))
  have HP2 := fun V h => hid (l_Parse V d h hd)
  cases hb : iB n
  · have e1 : mkB n d = ⟨#[]⟩ := if_pos hb
    have e2 : mkE n d = 3 := if_pos hb
    rw [e1, e2]
    rw [hb] at HI
    clear e1 e2 hb hz HP1 HP2 hn hd hL
    go_enter Tryz.func98, Tryz.ntmps98
    go_wp2_with fail
    refine (HI _).out.mono ?_; rintro e w1 ⟨rfl, hb1⟩
    have b1 := hid hb1; clear hb1
    go_wp2_with fail
    go_ret2
    exact ⟨rfl, b1.out⟩
  · have nb : ¬ iB n = false := by simp [hb]
    by_cases h1 : 4000 < (iD n).size
    · have e1 : mkB n d = ⟨#[]⟩ := by rw [mkB, if_neg nb, if_pos h1]
      have e2 : mkE n d = 5 := by rw [mkE, if_neg nb, if_pos h1]
      have q0 : decide ((4000 : Int) < ((iD n).size : Nat)) = true := by simp; omega
      rw [e1, e2]
      rw [hb] at HI
      clear e1 e2 hb hz HP1 HP2 hn hd hL h1 nb
      go_enter Tryz.func98, Tryz.ntmps98
      go_wp2_with fail
      refine (HI _).out.mono ?_; rintro e w1 ⟨rfl, hb1⟩
      have b1 := hid hb1; clear hb1
      go_wp2_with fail
      go_ret2
      exact ⟨rfl, b1.out⟩
    · have q0 : decide ((4000 : Int) < ((iD n).size : Nat)) = false := by simp; omega
      by_cases h2 : errN d.data.toList = 0
      · have nc : ¬ errN d.data.toList ≠ 0 := fun h => h h2
        by_cases h3 : d = ⟨#[48]⟩
        · have e1 : mkB n d = ⟨#[]⟩ := by rw [mkB, if_neg nb, if_neg h1, if_neg nc, if_pos h3]
          have e2 : mkE n d = 6 := by rw [mkE, if_neg nb, if_neg h1, if_neg nc, if_pos h3]
          rw [e1, e2]
          rw [hb] at HI
          rw [h2] at HC
          clear e1 e2 hb hz HP1 HP2 hn hd hL h1 nb nc h2
          subst h3
          go_enter Tryz.func98, Tryz.ntmps98
          go_wp2_with fail
          refine (HI _).out.mono ?_; rintro e w1 ⟨rfl, hb1⟩
          have b1 := hid hb1; clear hb1
          go_wp2_with fail
          refine (HC _).out.mono ?_; rintro e w2 ⟨rfl, hb2⟩
          have b2 := hid (bnext b1.out hb2); clear hb2
          go_wp2_with fail
          go_ret2
          exact ⟨rfl, b2.out⟩
        · have e1 : mkB n d = outB (qmk (iM n) (bN (iD n)) (bN d)) := by rw [mkB, if_neg nb, if_neg h1, if_neg nc, if_neg h3]
          have e2 : mkE n d = outE (qmk (iM n) (bN (iD n)) (bN d)) := by rw [mkE, if_neg nb, if_neg h1, if_neg nc, if_neg h3]
          rw [e1, e2]
          have d1 := fB_dig (iB_form hb)
          obtain ⟨d2, d3, d4⟩ := errN_dig h2
          have hdp : 0 < bN d := formZ (formB_iff.2 (by obtain ⟨x, hx, _⟩ := errN_zero.1 h2; exact isForm_iff.2 ⟨x, hx⟩)) h3
          have l1 : (limbs (bN (iD n))).length ≤ 1000 := dv_limbs d1 (by rw [list_size]; omega)
          have l2 : (limbs (bN d)).length ≤ 1000 := d4
          have HP1 := fun V => HP1 V d1
          have HP2 := fun V => HP2 V d2
          have HQ := qmk_len (m := iM n) hdp l1 l2
          have HM := fun V v u hv hu => hid (f_Make V (iM n) v u (bN (iD n)) (bN d) hv hu hdp (by omega) (by omega))
          obtain ⟨Q, hQ⟩ : ∃ Q, qmk (iM n) (bN (iD n)) (bN d) = Q := ⟨_, rfl⟩
          rw [hQ] at HQ HM ⊢
          have HN := fun V v hv hL => hid (f_Num V v Q hv (by omega) (by omega) hL)
          rw [hb] at HI
          rw [h2] at HC
          have i1 := ne_lit (l := [48]) h3
          clear e1 e2 hb hz hn hd hL h1 nb nc h2 h3 d1 d2 d3 d4 hdp l1 l2 HQ hQ
          go_enter Tryz.func98, Tryz.ntmps98
          go_wp2_with fail
          refine (HI _).out.mono ?_; rintro e w1 ⟨rfl, hb1⟩
          have b1 := hid hb1; clear hb1
          go_wp2_with fail
          refine (HC _).out.mono ?_; rintro e w2 ⟨rfl, hb2⟩
          have b2 := hid (bnext b1.out hb2); clear hb2
          go_wp2_with fail
          refine (HP1 _).out.mono ?_; rintro e w3 ⟨⟨v3, rfl, hv3⟩, hb3⟩
          have b3 := hid (bnext b2.out hb3); have V3 := hid hv3; clear hb3 hv3
          go_wp2_with fail
          refine (HP2 _).out.mono ?_; rintro e w4 ⟨⟨v4, rfl, hv4⟩, hb4⟩
          have b4 := hid (bnext b3.out hb4); have V4 := hid hv4; have W3 := hid (V3.out.call hb4); clear hb4 hv4
          go_wp2_with fail
          refine (HM _ _ _ W3.out V4.out).out.mono ?_; rintro e w5 ⟨⟨v5, rfl, hv5⟩, hb5⟩
          have b5 := hid (bnext b4.out hb5); have V5 := hid hv5; clear hb5 hv5
          go_wp2_with fail
          refine (HN _ _ V5.out (HL.out.call b5.out)).out.mono ?_; rintro e w6 ⟨rfl, hb6⟩
          have b6 := hid (bnext b5.out hb6); clear hb6
          go_wp2_with fail
          go_ret2
          exact ⟨rfl, b6.out⟩
      · have e1 : mkB n d = ⟨#[]⟩ := by rw [mkB, if_neg nb, if_neg h1, if_pos h2]
        have e2 : mkE n d = errN d.data.toList := by rw [mkE, if_neg nb, if_neg h1, if_pos h2]
        rw [e1, e2]
        rw [hb] at HI
        obtain ⟨x, hx⟩ : ∃ x, errN d.data.toList = x := ⟨_, rfl⟩
        rw [hx] at HC h2 ⊢
        have q1 : (x == 0) = false := by simpa using h2
        have q2 : (x != 0) = true := by simpa using h2
        clear e1 e2 hb hz HP1 HP2 hn hd hL h1 nb h2 hx
        go_enter Tryz.func98, Tryz.ntmps98
        go_wp2_with fail
        refine (HI _).out.mono ?_; rintro e w1 ⟨rfl, hb1⟩
        have b1 := hid hb1; clear hb1
        go_wp2_with fail
        refine (HC _).out.mono ?_; rintro e w2 ⟨rfl, hb2⟩
        have b2 := hid (bnext b1.out hb2); clear hb2
        go_wp2_with fail
        go_ret2
        exact ⟨rfl, b2.out⟩
end Go.Proofs.YtgphopkifomffaaGreatDoor
namespace Go.Proofs.YtgphopkifomffaaGreatDoor
open Go.RowKit
open Go.Lib (decDigits nDigits)
set_option linter.unusedVariables false
set_option linter.unusedSimpArgs false
theorem mk_num {a b : Nat} (ha : nDigits a ≤ 4000) (hb : nDigits b ≤ 4000) (h0 : b ≠ 0) : mkB (numB a) (numB b) = outB (qmk false a b) ∧ mkE (numB a) (numB b) = outE (qmk false a b) := by
  have e1 : iM (numB a) = false := by
    unfold iM Lib.hasPrefix
    rw [numB_list]
    exact minus_dec a
  have e2 : iD (numB a) = numB a := iD_plain e1
  have e3 : iB (numB a) = true := by
    unfold iB
    rw [e1, e2, fB_num]; rfl
  have e4 : errN (numB b).data.toList = 0 := errN_numB hb
  have e5 : ¬ (numB b = ⟨#[48]⟩) := by rw [← numB_zero]; exact numB_ne h0
  have e6 : ¬ 4000 < (iD (numB a)).size := by rw [e2, numB_size]; omega
  constructor
  · rw [mkB, if_neg (by simp [e3]), if_neg e6, if_neg (fun h => h e4), if_neg e5, e1, e2, bN_num, bN_num]
  · rw [mkE, if_neg (by simp [e3]), if_neg e6, if_neg (fun h => h e4), if_neg e5, e1, e2, bN_num, bN_num]
end Go.Proofs.YtgphopkifomffaaGreatDoor
namespace Go.Proofs.YtgphopkifomffaaGreatDoor
open Go.RowKit
open Go.Lib (decDigits nDigits)
set_option linter.unusedVariables false
set_option linter.unusedSimpArgs false
theorem NoInt.slice (a : Option Addr) (n c : Nat) : NoInt #[.slice a n c] := by
  intro i k x h
  rcases i with _ | i <;> simp at h
theorem NoInt.bool (m : Bool) : NoInt #[.bool m] := by
  intro i k x h
  rcases i with _ | i <;> simp at h
structure PowS (w : World) (bs bf bl : Nat) (sq : Nat) (fits : Bool) : Prop where
  sq : ∃ a n c, Blk w bs #[.slice a n c] 99 ∧ IsN .u64 w (.slice a n c) sq
  fits : Blk w bf #[.bool fits] 4
  lim : Blk w bl #[.int .i64 4000] 3
  n1 : bs ≠ bf
  n2 : bs ≠ bl
  n3 : bf ≠ bl
set_option maxRecDepth 100000 in
set_option maxHeartbeats 1000000 in
theorem l_Pow1 (w : World) (bs bf bl sq B : Nat) (f : Bool) (h : PowS w bs bf bl sq f) (hs : B ≤ bs) (hf : B ≤ bf) (hB : B ≤ w.heap.size) (hlen : (limbs sq).length ≤ 100000) (hL : Lay w) (hLB : LayLt B) :
    Calls Tryz.prog 129 #[.pointer (some ⟨bs, 0, none⟩), .pointer (some ⟨bl, 0, none⟩), .pointer (some ⟨bf, 0, none⟩)] w fun e w' =>
      (∃ v, e = .returned v) ∧ PowS w' bs bf bl (sq * sq) (decide (nDigits (sq * sq) ≤ 4000)) ∧ (∀ k v x, IsN k w v x → IsN k w' v x) ∧ Below B w w' := by
  obtain ⟨⟨a, n, c, hbs, hv⟩, hbf, hbl, n1, n2, n3⟩ := h
  have c0 : w.cell? ⟨bs, 0, none⟩ = some (.slice a n c) := hbs.cell 0
  have c1 := hbs.free 0
  have c2 : w.cell? ⟨bl, 0, none⟩ = some (.int .i64 4000) := hbl.cell 0
  have HBS := hid hbs; have HBF := hid hbf; have HBL := hid hbl; have HV := hid hv; have N1 := hid n1; have N2 := hid n2; have N3 := hid n3
  have HS := hid hs; have HF := hid hf; have HB := hid hB; have HLEN := hid hlen; have HL := hid hL; have HLB := hid hLB
  have l2 := len_mul hlen hlen
  have HLM := hid (show (limbs (sq * sq)).length ≤ 1000000 by omega)
  obtain ⟨S, hS⟩ : ∃ S, sq * sq = S := ⟨_, rfl⟩
  have HM := fun V h => hid (l_Mul V (.slice a n c) (.slice a n c) sq sq h h (by omega) (by omega))
  rw [hS] at HM HLM ⊢
  clear hbs hv hbf hbl n1 n2 n3 hs hf hB hlen hL l2 hS hLB
  go_enter Tryz.func129, Tryz.ntmps129
  go_wp2_with fail
  refine (HM _ HV.out).out.mono ?_; rintro e w1 ⟨⟨v1, rfl, hv1⟩, hb1⟩
  obtain ⟨a1, k1, d1, rfl⟩ : ∃ a k d, v1 = .slice a k d := by
    obtain ⟨a, c, e, _⟩ := hv1.openI
    exact ⟨_, _, _, e⟩
  have S1 := hid (HBS.out.call hb1); have F1 := hid (HBF.out.call hb1); have T1 := hid (HBL.out.call hb1); have B1 := hid hb1; have V1 := hid hv1
  have e0 := S1.out.free 0
  have e1 := S1.out.cell 0
  simp at e1
  clear hb1 hv1 HM c0 c1 c2
  go_wp2_with fail
  obtain ⟨w2, hw2⟩ : ∃ w2, w1.setCell ⟨bs, 0, none⟩ (.slice a1 k1 d1) = w2 := ⟨_, rfl⟩
  have s2 : Blk w2 bs #[.slice a1 k1 d1] 99 := by rw [← hw2]; exact S1.out.set 0 _
  have f2 : Blk w2 bf #[.bool f] 4 := by rw [← hw2]; exact F1.out.other (fun e => N1.out e) _
  have t2 : Blk w2 bl #[.int .i64 4000] 3 := by rw [← hw2]; exact T1.out.other (fun e => N2.out e) _
  have v2 : IsN .u64 w2 (.slice a1 k1 d1) S := by rw [← hw2]; exact V1.out.setQ S1.out (NoInt.slice _ _ _) 0 _
  have k2 : ∀ k v x, IsN k w v x → IsN k w2 v x := fun k v x h => by rw [← hw2]; exact (h.call B1.out).setQ S1.out (NoInt.slice _ _ _) 0 _
  have b2 : Below B w w2 := by rw [← hw2]; exact (B1.out.mono HB.out).setCell HS.out _
  have hsz : w.heap.size ≤ w2.heap.size := by rw [← hw2]; simpa [World.setCell] using B1.out.size
  rw [hw2]
  have S2 := hid s2; have F2 := hid f2; have T2 := hid t2; have V2 := hid v2; have K2 := hid k2; have B2 := hid b2; have SZ := hid hsz
  have L2 : Hid (Lay w2) := HL.out.below b2 HLB.out
  clear s2 f2 t2 v2 k2 b2 hw2 e0 e1 hsz
  have hS : w2.drew.cell? ⟨bs, 0, none⟩ = some (.slice a1 k1 d1) ∧ w2.drew.cell? ⟨bl, 0, none⟩ = some (.int .i64 4000) := ⟨S2.out.cell 0, T2.out.cell 0⟩
  refine held_plain [0, 2] 3 (fun W' => W'.cell? ⟨bs, 0, none⟩ = some (.slice a1 k1 d1) ∧ W'.cell? ⟨bl, 0, none⟩ = some (.int .i64 4000)) (by kernel_rfl) (by kernel_rfl) (by kernel_rfl) (by kernel_rfl) hS ?_
  iterate 2
    refine ⟨_, rfl, ?_⟩
    apply Exists.intro
    refine ⟨.inl ⟨by rfl, ?_⟩, ?_⟩
    · (intro W' hW'; obtain ⟨q1, q2⟩ := hW'; go_simp; try (with_reducible rfl))
    (dsimp only [Act.put]; try simp only [List.setIfInBounds_toArray, List.set_cons_zero, List.set_cons_succ])
  clear hS
  refine held_one (i := 1) (by kernel_rfl) (by rfl) (by rfl) ?_
  go_wp2_with fail
  refine (l_Digits _ _ S (V2.out.call (Below.refl _ _).drew) (L2.out.call (Below.refl _ _).drew) HLM.out).mono ?_; rintro e w3 ⟨rfl, hb3⟩
  have B3 := hid (show Below w2.heap.size w2 w3 from (Below.refl _ _).drew.trans hb3)
  have S3 := hid (S2.out.call B3.out); have F3 := hid (F2.out.call B3.out); have T3 := hid (T2.out.call B3.out); have V3 := hid (V2.out.call B3.out)
  have hS : w3.cell? ⟨bs, 0, none⟩ = some (.slice a1 k1 d1) ∧ w3.cell? ⟨bl, 0, none⟩ = some (.int .i64 4000) := ⟨S3.out.cell 0, T3.out.cell 0⟩
  clear hb3
  go_wp2_with fail
  refine ⟨hS, ?_⟩
  refine held_more (is := [3]) (g := 1) (by kernel_rfl) rfl hS (by kernel_rfl) ?_
  iterate 1
    refine ⟨_, rfl, ?_⟩
    apply Exists.intro
    refine ⟨.inl ⟨by rfl, ?_⟩, ?_⟩
    · (intro W' hW'; clear hW'; go_simp; try (with_reducible rfl))
    (dsimp only [Act.put]; try simp only [List.setIfInBounds_toArray, List.set_cons_zero, List.set_cons_succ])
  refine held_one (i := 4) (by kernel_rfl) (by rfl) (by rfl) ?_
  have g0 := F3.out.free 0
  have g1 := F3.out.cell 0
  simp at g1
  clear hS
  go_wp2_with fail
  have s4 := S3.out.other (a := ⟨bf, 0, none⟩) (fun e => N1.out e.symm) (.bool (decide ((nDigits S : Int) ≤ 4000)))
  have f4 := F3.out.set 0 (.bool (decide ((nDigits S : Int) ≤ 4000)))
  have t4 := T3.out.other (a := ⟨bf, 0, none⟩) (fun e => N3.out e) (.bool (decide ((nDigits S : Int) ≤ 4000)))
  refine ⟨⟨s4.cell 0, t4.cell 0⟩, ?_⟩
  refine wpAnyH_done (by kernel_rfl) ?_ _
  simp only [Only]
  go_wp2_with fail
  go_end0
  refine ⟨⟨_, rfl⟩, ⟨⟨a1, k1, d1, s4, V3.out.setQ F3.out (NoInt.bool _) 0 _⟩, ?_, t4, N1.out, N2.out, N3.out⟩, ?_, ?_⟩
  · have e : decide ((nDigits S : Int) ≤ 4000) = decide (nDigits S ≤ 4000) := decide_eq_decide.2 (by omega)
    rw [← e]
    exact f4
  · intro k v x h
    exact ((K2.out k v x h).call B3.out).setQ F3.out (NoInt.bool _) 0 _
  · exact (B2.out.trans (B3.out.mono (Nat.le_trans HB.out SZ.out))).setCell HF.out _
end Go.Proofs.YtgphopkifomffaaGreatDoor
namespace Go.Proofs.YtgphopkifomffaaGreatDoor
open Go.RowKit
open Go.Lib (decDigits nDigits)
set_option linter.unusedVariables false
set_option linter.unusedSimpArgs false
structure PowI (A sq out n : Nat) (fits : Bool) : Prop where
  eq : out * sq ^ n = A
  two : 2 ≤ sq
  n1 : 1 ≤ n
  small : nDigits out ≤ 4000
  fit : fits = false → 4000 < nDigits sq
  len : fits = true → (limbs sq).length ≤ 100000
  lim : (limbs sq).length ≤ 200000
  pos : 1 ≤ out
theorem PowI.start {a n : Nat} (ha : 2 ≤ a) (hn : 1 ≤ n) (hl : (limbs a).length ≤ 100000) : PowI (a ^ n) a 1 n true :=
  ⟨Nat.one_mul _, ha, hn, by rw [nDigits_one]; omega, fun h => by (cases h), fun _ => hl, by omega, Nat.le_refl _⟩
theorem PowI.sq_le {A sq out n : Nat} {fits : Bool} (h : PowI A sq out n fits) : out * sq ≤ A := by
  rw [← h.eq]
  refine Nat.mul_le_mul_left _ ?_
  have := Nat.pow_le_pow_right (n := sq) (by have := h.two; omega) h.n1
  rwa [Nat.pow_one] at this
theorem PowI.big {A sq out n : Nat} {fits : Bool} (h : PowI A sq out n fits) (hf : fits = false) : 4000 < nDigits A := by
  refine Nat.lt_of_lt_of_le (h.fit hf) (nDigits_mono ?_)
  exact Nat.le_trans (Nat.le_mul_of_pos_left _ h.pos) h.sq_le
theorem PowI.bigO {A sq out n : Nat} {fits : Bool} (h : PowI A sq out n fits) (hb : 4000 < nDigits (out * sq)) : 4000 < nDigits A :=
  Nat.lt_of_lt_of_le hb (nDigits_mono h.sq_le)
theorem PowI.done {A sq out n : Nat} {fits : Bool} (h : PowI A sq out n fits) (hn : n = 1) : out * sq = A := by
  rw [← h.eq, hn, Nat.pow_one]
theorem sq_len {sq : Nat} (h : (limbs sq).length ≤ 100000) : (limbs (sq * sq)).length ≤ 200000 := by
  have := limbs_mul h h
  omega
theorem PowI.odd {A sq out n : Nat} {fits : Bool} (h : PowI A sq out n fits) (hf : fits = true) (ho : n % 2 = 1) (hs : nDigits (out * sq) ≤ 4000) (h2 : 1 ≤ n / 2) : PowI A (sq * sq) (out * sq) (n / 2) (decide (nDigits (sq * sq) ≤ 4000)) := by
  have h4 := Nat.mul_le_mul h.two h.two
  refine ⟨?_, by omega, h2, hs, fun e => ?_, fun e => ?_, sq_len (h.len hf), Nat.mul_pos h.pos (by have := h.two; omega)⟩
  · rw [← h.eq, Nat.mul_assoc, ← Nat.pow_two, ← Nat.pow_mul]
    have : sq * sq ^ (2 * (n / 2)) = sq ^ n := by
      rw [← Nat.pow_succ']
      congr 1
      omega
    rw [this]
  · have := of_decide_eq_false e; omega
  · have := limbs_of_digits (of_decide_eq_true e); omega
theorem PowI.even {A sq out n : Nat} {fits : Bool} (h : PowI A sq out n fits) (hf : fits = true) (ho : n % 2 = 0) : PowI A (sq * sq) out (n / 2) (decide (nDigits (sq * sq) ≤ 4000)) := by
  have h4 := Nat.mul_le_mul h.two h.two
  have h1 := h.n1
  refine ⟨?_, by omega, by omega, h.small, fun e => ?_, fun e => ?_, sq_len (h.len hf), h.pos⟩
  · rw [← h.eq, ← Nat.pow_two, ← Nat.pow_mul]
    congr 2
    omega
  · have := of_decide_eq_false e; omega
  · have := limbs_of_digits (of_decide_eq_true e); omega
def RetPowU (n : Nat) (e : Ending) (w' : World) : Prop :=
  (nDigits n ≤ 4000 ∧ ∃ v, e = .returned (.tuple #[v, .bool true]) ∧ IsN .u64 w' v n) ∨ (4000 < nDigits n ∧ e = .returned (.tuple #[.slice none 0 0, .bool false]))
theorem isN_oneU (w : World) : IsN .u64 (w.alloc (.cells #[.int .u64 1] 120)) (.slice (some ⟨w.heap.size, 0, none⟩) 1 1) 1 := by
  unfold IsN
  rw [limbs_one]
  exact Row.of_blk (b := w.heap.size) (n := 1) (c := 1) (cs := #[.int .u64 1]) (Blk.new w _ _) rfl (by unfold maxLen; omega) (fun i x hx => by simpa [ints] using hx) (Nat.le_refl _) (by unfold maxLen; omega)
theorem odd_test {n : Nat} (h : n < 18446744073709551616) : (bits BinOp.and IntKind.u64 (n : Int) 1 == 1) = decide (n % 2 = 1) := by
  rw [and_one_u64 _ (by omega) (by omega), Bool.eq_iff_iff, beq_iff_eq, decide_eq_true_eq]
  omega
set_option maxRecDepth 100000 in
set_option maxHeartbeats 1000000 in
theorem l_Pow_zero (w : World) (v : Value) (a : Nat) (ha : IsN .u64 w v a) : Calls Tryz.prog 84 #[v, .int .u64 0, .int .i64 4000] w fun e w' => RetPowU (a ^ 0) e w' ∧ Below w.heap.size w w' := by
  have H1 := hid (isN_oneU (w.alloc (.cells #[.int .i64 4000] 3)))
  go_enter Tryz.func84, Tryz.ntmps84
  go_wp2_with fail
  go_ret2
  refine ⟨.inl ⟨by rw [Nat.pow_zero, nDigits_one]; omega, _, rfl, by rw [Nat.pow_zero]; simpa using H1.out⟩, ((Below.refl _ _).alloc (Nat.le_refl _) _).alloc (by simp) _⟩
set_option maxRecDepth 100000 in
set_option maxHeartbeats 1000000 in
theorem l_Pow_small (w : World) (v : Value) (a n : Nat) (ha : IsN .u64 w v a) (hs : a ≤ 1) (hn : 0 < n) (hn2 : n < 18446744073709551616) : Calls Tryz.prog 84 #[v, .int .u64 n, .int .i64 4000] w fun e w' => RetPowU (a ^ n) e w' ∧ Below w.heap.size w w' := by
  have hpow := hid (show a ^ n = a ∧ nDigits a ≤ 4000 from by
    rcases (show a = 0 ∨ a = 1 by omega) with rfl | rfl
    · exact ⟨Nat.zero_pow hn, by rw [nDigits_zero]; omega⟩
    · exact ⟨Nat.one_pow _, by rw [nDigits_one]; omega⟩)
  have b0 := hid ((Below.refl w.heap.size w).alloc (Nat.le_refl _) (.cells #[.int .i64 4000] 3))
  have A0 := hid (ha.call b0.out)
  have q0 : ((n : Int) == 0) = false := by rw [beq_eq_false_iff_ne]; omega
  obtain ⟨k1, d1, rfl, _⟩ := ha.openI
  obtain ⟨len, hlen⟩ : ∃ k, (limbs a).length = k := ⟨_, rfl⟩
  rw [hlen] at A0 ⊢
  clear ha hlen
  rcases (show a = 0 ∨ a = 1 by omega) with rfl | rfl
  · have hz : isZ 0 = true := rfl
    clear hs hn hn2
    go_enter Tryz.func84, Tryz.ntmps84
    go_wp2_with fail
    refine (l_Zero _ _ _ A0.out).mono ?_; rintro e w1 ⟨rfl, rfl⟩
    rw [hz]
    go_wp2_with fail
    go_ret2
    exact ⟨.inl ⟨by rw [hpow.out.1]; exact hpow.out.2, _, rfl, by rw [hpow.out.1]; exact A0.out⟩, b0.out⟩
  · have hz : isZ 1 = false := rfl
    have ho : isO 1 = true := rfl
    clear hs hn hn2
    go_enter Tryz.func84, Tryz.ntmps84
    go_wp2_with fail
    refine (l_Zero _ _ _ A0.out).mono ?_; rintro e w1 ⟨rfl, rfl⟩
    rw [hz]
    go_wp2_with fail
    refine (l_One _ _ _ A0.out).mono ?_; rintro e w1 ⟨rfl, rfl⟩
    rw [ho]
    go_wp2_with fail
    go_ret2
    exact ⟨.inl ⟨by rw [hpow.out.1]; exact hpow.out.2, _, rfl, by rw [hpow.out.1]; exact A0.out⟩, b0.out⟩
set_option maxRecDepth 100000 in
set_option maxHeartbeats 4000000 in
theorem l_Pow_big (w : World) (v : Value) (a N : Nat) (ha : IsN .u64 w v a) (hs : 2 ≤ a) (hl : (limbs a).length ≤ 100000) (hn : 0 < N) (hn2 : N < 18446744073709551616) (hL : Lay w) : Calls Tryz.prog 84 #[v, .int .u64 N, .int .i64 4000] w fun e w' => RetPowU (a ^ N) e w' ∧ Below w.heap.size w w' := by
  have b0 := hid ((Below.refl w.heap.size w).alloc (Nat.le_refl _) (.cells #[.int .i64 4000] 3))
  have A0 := hid (ha.call b0.out); have HA := hid ha
  have q0 : ((N : Int) == 0) = false := by rw [beq_eq_false_iff_ne]; omega
  obtain ⟨k1, d1, rfl, _⟩ := ha.openI
  obtain ⟨len, hlen⟩ : ∃ k, (limbs a).length = k := ⟨_, rfl⟩
  have PI := hid (PowI.start (n := N) hs hn hl)
  rw [hlen] at A0 HA ⊢
  have hz : isZ a = false := decide_eq_false (by omega)
  have ho : isO a = false := decide_eq_false (by omega)
  have HN2 := hid hn2; have HL := hid hL; have HLL := hid hL.lt
  obtain ⟨R, hR⟩ : ∃ R, a ^ N = R := ⟨_, rfl⟩
  rw [hR] at PI ⊢
  clear ha hlen hs hl hn hn2 hL hR
  go_enter Tryz.func84, Tryz.ntmps84
  go_wp2_with fail
  refine (l_Zero _ _ _ A0.out).mono ?_; rintro e w1 ⟨rfl, rfl⟩
  rw [hz]
  clear hz
  go_wp2_with fail
  refine (l_One _ _ _ A0.out).mono ?_; rintro e w1 ⟨rfl, rfl⟩
  rw [ho]
  clear ho
  go_wp2_with fail
  obtain ⟨W0, hW0⟩ : ∃ W0, ((((w.alloc (.cells #[.int .i64 4000] 3)).alloc (.cells #[.int .u64 1] 120)).alloc (.cells #[.slice k1 len d1] 99)).alloc (.cells #[.bool true] 4)) = W0 := ⟨_, rfl⟩
  have b4 : Below w.heap.size w W0 := by rw [← hW0]; exact ((((Below.refl _ _).alloc (Nat.le_refl _) _).alloc (by simp) _).alloc (by simp <;> omega) _).alloc (by simp <;> omega) _
  have x0 : Blk W0 w.heap.size #[.int .i64 4000] 3 := by rw [← hW0]; exact (((Blk.new w _ _).alloc _).alloc _).alloc _
  have x1 : Blk W0 (w.heap.size + 1) #[.int .u64 1] 120 := by rw [← hW0]; exact ((Blk.made _ _ _ (by simp)).alloc _).alloc _
  have x2 : Blk W0 (w.heap.size + 1 + 1) #[.slice k1 len d1] 99 := by rw [← hW0]; exact (Blk.made _ _ _ (by simp)).alloc _
  have x3 : Blk W0 (w.heap.size + 1 + 1 + 1) #[.bool true] 4 := by rw [← hW0]; exact Blk.made _ _ _ (by simp)
  have o0 : IsN .u64 W0 (.slice (some ⟨w.heap.size + 1, 0, none⟩) 1 1) 1 := by
    unfold IsN
    rw [limbs_one]
    exact Row.of_blk (n := 1) (c := 1) x1 rfl (by unfold maxLen; omega) (fun i x hx => by simpa [ints] using hx) (Nat.le_refl _) (by unfold maxLen; omega)
  have P0 : PowS W0 (w.heap.size + 1 + 1) (w.heap.size + 1 + 1 + 1) w.heap.size a true := ⟨⟨_, _, _, x2, HA.out.call b4⟩, x3, x0, by omega, by omega, by omega⟩
  rw [hW0]
  have OO := hid o0; have PP := hid P0; have BB := hid b4
  obtain ⟨bs, hbs⟩ : ∃ b, w.heap.size + 1 + 1 = b := ⟨_, rfl⟩
  rw [hbs] at PP ⊢
  obtain ⟨bf, hbf⟩ : ∃ b, bs + 1 = b := ⟨_, rfl⟩
  rw [hbf] at PP ⊢
  have HBS := hid (show w.heap.size ≤ bs by omega); have HBF := hid (show w.heap.size ≤ bf by omega)
  have e159 : ∀ args w, (callFunc 129 args).run Tryz.prog w = .ok (.enter 129 args) w := enters_of Tryz.func129 (by kernel_rfl) rfl
  clear b4 x0 x1 x2 x3 o0 P0 hW0 hbs hbf A0 b0 q0
  go_loopw [1, 8] (fun nn oo wr => ∃ (n out sq : Nat) (fits : Bool) (a1 : Option Addr) (l1 c1 : Nat), nn = .int .u64 (n : Nat) ∧ oo = .slice a1 l1 c1 ∧ Hid (PowI R sq out n fits) ∧ Hid (IsN .u64 wr (.slice a1 l1 c1) out) ∧ Hid (PowS wr bs bf w.heap.size sq fits) ∧ Hid (Below w.heap.size w wr) ∧ n < 18446744073709551616) (fun nn oo wr => (intOf nn).toNat)
  case atStart => exact ⟨N, 1, a, true, _, _, _, rfl, rfl, PI.out, OO.out, PP.out, BB.out, HN2.out⟩
  case round =>
    obtain ⟨n, out, sq, fits, a1, l1, c1, rfl, rfl, hI, hO, hS, hB, hn⟩ := hrel
    obtain ⟨a2, l2, c2, h1, h2⟩ := hS.out.sq
    have HL1 := hid (HL.out.call hB.out)
    have HO := hid h1; have HV := hid h2; have HF := hid hS.out.fits; have HT := hid hS.out.lim
    have k0 : wr.cell? ⟨bs, 0, none⟩ = some (.slice a2 l2 c2) := h1.cell 0
    have k1 : wr.cell? ⟨bf, 0, none⟩ = some (.bool fits) := hS.out.fits.cell 0
    have k2 : wr.cell? ⟨w.heap.size, 0, none⟩ = some (.int .i64 4000) := hS.out.lim.cell 0
    have HN := hid hn; have HN1 := hid hI.out.n1
    have HLO := hid (limbs_of_digits hI.out.small); have HLS := hid hI.out.lim
    clear h1 h2
    by_cases ho : n % 2 = 1
    · have q1 : (bits BinOp.and IntKind.u64 (n : Int) 1 == 1) = true := by rw [odd_test hn]; exact decide_eq_true ho
      have HO1 := hid ho
      clear ho hn
      go_wp2_with fail
      refine (l_Mul _ _ _ out sq hO.out HV.out (by have := HLO.out; omega) (by have := HLS.out; omega)).mono ?_; rintro e w1 ⟨⟨v1, rfl, hv1⟩, hb1⟩
      have HLM := hid (limbs_mul HLO.out HLS.out)
      obtain ⟨a3, c3, rfl, _⟩ := hv1.openI
      obtain ⟨l3, hl3⟩ : ∃ l, (limbs (out * sq)).length = l := ⟨_, rfl⟩
      rw [hl3] at hv1 ⊢
      have V1 := hid hv1; have F1 := hid (HF.out.call hb1); have T1 := hid (HT.out.call hb1); have B1 := hid (bnext hB.out hb1)
      have S1 : Hid (PowS w1 bs bf w.heap.size sq fits) := ⟨⟨_, _, _, HO.out.call hb1, HV.out.call hb1⟩, F1.out, T1.out, hS.out.n1, hS.out.n2, hS.out.n3⟩
      have m1 : w1.cell? ⟨bf, 0, none⟩ = some (.bool fits) := F1.out.cell 0
      have m2 : w1.cell? ⟨w.heap.size, 0, none⟩ = some (.int .i64 4000) := T1.out.cell 0
      have L1 := hid (HL1.out.call hb1); have B1x := hid hb1
      clear hb1 hv1 k0 k1 k2 hl3
      cases fits
      · go_wp2_with fail
        go_quiet (fail)
        go_wp2_with fail
        go_ret2
        exact ⟨.inr ⟨hI.out.big rfl, rfl⟩, below_drewN B1.out _⟩
      · go_wp2_with fail
        go_region_held3 (fun w' => w'.cell? ⟨bf, 0, none⟩ = some (.bool true) ∧ w'.cell? ⟨w.heap.size, 0, none⟩ = some (.int .i64 4000))
          (first | exact ⟨m1, m2⟩ | exact ⟨F2.out.cell 0, T2.out.cell 0⟩)
          (first
            | (go_at_call 107; refine (l_Digits _ _ (out * sq) (V1.out.call (Below.refl _ _).drew) (L1.out.call (Below.refl _ _).drew) (by have := HLM.out; omega)).mono ?_; rintro e w2 ⟨rfl, hb2⟩; have B2 := hid (show Below w1.heap.size w1 w2 from (Below.refl _ _).drew.trans hb2); have F2 := hid (F1.out.call B2.out); have T2 := hid (T1.out.call B2.out)))
        have S2 : Hid (PowS w2 bs bf w.heap.size sq true) := ⟨⟨_, _, _, (HO.out.call B1x.out).call B2.out, (HV.out.call B1x.out).call B2.out⟩, F2.out, T2.out, hS.out.n1, hS.out.n2, hS.out.n3⟩
        have V2 := hid (V1.out.call B2.out); have L2 := hid (L1.out.call B2.out); have BB2 := hid (bnext B1.out B2.out)
        clear m1 m2
        by_cases hd : 4000 < nDigits (out * sq)
        · have q2 : decide ((4000 : Int) < (nDigits (out * sq) : Nat)) = true := by simp; omega
          have HD := hid hd
          rw [q2]
          clear hd q2
          go_wp2_with fail
          go_ret2
          exact ⟨.inr ⟨hI.out.bigO HD.out, rfl⟩, BB2.out⟩
        · have q2 : decide ((4000 : Int) < (nDigits (out * sq) : Nat)) = false := by simp; omega
          have HD := hid (show nDigits (out * sq) ≤ 4000 by omega)
          rw [q2]
          clear hd q2
          have m1 : w2.cell? ⟨bf, 0, none⟩ = some (.bool true) := F2.out.cell 0
          by_cases h1 : n = 1
          · have HD1 := hid (hI.out.done h1)
            subst h1
            go_wp2_with fail
            go_ret2
            exact ⟨.inl ⟨by rw [← HD1.out]; exact HD.out, _, rfl, by rw [← HD1.out]; exact V2.out⟩, BB2.out⟩
          · have h2 : 1 ≤ n / 2 := by have := HO1.out; omega
            have HN2' := hid h2
            have q3 : ((n : Int) / 2 == 0) = false := by rw [beq_eq_false_iff_ne]; omega
            have HI2 := hid (hI.out.odd rfl HO1.out HD.out h2)
            clear h1 h2
            go_wp2_with fail
            refine (l_Pow1 _ bs bf w.heap.size sq w.heap.size true S2.out HBS.out HBF.out BB2.out.size (hI.out.len rfl) L2.out HLL.out).mono ?_; rintro e w5 ⟨⟨v5, rfl⟩, hp5, hk5, hb5⟩
            have P5 := hid hp5; have O5 := hid (hk5 _ _ _ V2.out); have B5 := hid (BB2.out.trans hb5)
            clear hp5 hk5 hb5
            go_wp2_with fail
            go_roundw
            case rel => exact ⟨n / 2, out * sq, sq * sq, _, _, _, _, by rw [show ((n : Int) / 2) = ((n / 2 : Nat) : Int) by omega], rfl, HI2, O5, P5, B5, by have := HN.out; omega⟩
            case measure => simp [intOf] <;> (have := HN1.out; omega)
    · have q1 : (bits BinOp.and IntKind.u64 (n : Int) 1 == 1) = false := by rw [odd_test hn]; exact decide_eq_false ho
      have h0 : n % 2 = 0 := by omega
      have h2 : 1 ≤ n / 2 := by have := HN1.out; omega
      have q3 : ((n : Int) / 2 == 0) = false := by rw [beq_eq_false_iff_ne]; omega
      have H0 := hid h0
      clear ho hn h0 h2
      cases fits
      · go_wp2_with fail
        go_ret2
        exact ⟨.inr ⟨hI.out.big rfl, rfl⟩, hB.out⟩
      · have HI2 := hid (hI.out.even rfl H0.out)
        go_wp2_with fail
        refine (l_Pow1 _ bs bf w.heap.size sq w.heap.size true hS.out HBS.out HBF.out hB.out.size (hI.out.len rfl) HL1.out HLL.out).mono ?_; rintro e w5 ⟨⟨v5, rfl⟩, hp5, hk5, hb5⟩
        have P5 := hid hp5; have O5 := hid (hk5 _ _ _ hO.out); have B5 := hid (hB.out.trans hb5)
        clear hp5 hk5 hb5
        go_wp2_with fail
        go_roundw
        case rel => exact ⟨n / 2, out, sq * sq, _, _, _, _, by rw [show ((n : Int) / 2) = ((n / 2 : Nat) : Int) by omega], rfl, HI2, O5, P5, B5, by have := HN.out; omega⟩
        case measure => simp [intOf] <;> (have := HN1.out; omega)
theorem l_Pow (w : World) (v : Value) (a n : Nat) (ha : IsN .u64 w v a) (hl : (limbs a).length ≤ 100000) (hn2 : n < 18446744073709551616) (hL : Lay w) : Calls Tryz.prog 84 #[v, .int .u64 n, .int .i64 4000] w fun e w' => RetPowU (a ^ n) e w' ∧ Below w.heap.size w w' := by
  rcases Nat.eq_zero_or_pos n with rfl | hn
  · exact l_Pow_zero w v a ha
  · by_cases h : a ≤ 1
    · exact l_Pow_small w v a n ha h hn hn2
    · exact l_Pow_big w v a n ha (by omega) hl hn hn2 hL
end Go.Proofs.YtgphopkifomffaaGreatDoor
namespace Go.Proofs.YtgphopkifomffaaGreatDoor
open Go.RowKit
open Go.Lib (decDigits nDigits)
set_option linter.unusedVariables false
set_option linter.unusedSimpArgs false
set_option maxRecDepth 100000 in
set_option maxHeartbeats 1000000 in
theorem n_Pow_ok (w : World) (s : ByteArray) (n : Nat) (hs : errN s.data.toList = 0) (hn : n ≤ 9223372036854775807) (hd : nDigits (bN s ^ n) ≤ 4000) (hL : Lay w) :
    Calls Tryz.prog 144 #[.string s, .int .i64 n] w fun e w' => e = .returned (.tuple #[.string (numB (bN s ^ n)), .int .i64 0]) ∧ Below w.heap.size w w' := by
  obtain ⟨d1, d2, d3⟩ := errN_dig hs
  have HC := fun V => hid (n_Check V s (by omega))
  rw [hs] at HC
  have HP := fun V => hid (l_Parse V s d1 (by omega))
  have hdv : dv s.data.toList = bN s := rfl
  rw [hdv] at HP
  have HW := fun V v hv hL => hid (l_Pow V v (bN s) n hv (by omega) (by omega) hL)
  have HR := fun V v hv hL => hid (n_result V v (bN s ^ n) hv (by have := limbs_of_digits hd; omega) hL)
  have e1 : resB (bN s ^ n) = numB (bN s ^ n) := by rw [resB, if_neg (by omega)]
  have e2 : resE (bN s ^ n) = 0 := by rw [resE, if_neg (by omega)]
  rw [e1, e2] at HR
  obtain ⟨R, hR⟩ : ∃ R, bN s ^ n = R := ⟨_, rfl⟩
  rw [hR] at HW HR hd ⊢
  have HD := hid hd; have HL := hid hL
  have hn0 : (0 : Int) ≤ (n : Int) := by omega
  have hn1 : (n : Int) ≤ 9223372036854775807 := by omega
  have q0 : decide ((n : Int) < 0) = false := by simp
  clear hs hn d1 d2 d3 hdv e1 e2 hR hd hL
  go_enter Tryz.func144, Tryz.ntmps144
  go_wp2_with fail
  refine (HC _).out.mono ?_; rintro e w1 ⟨rfl, hb1⟩
  have b1 := hid hb1; clear hb1
  go_wp2_with fail
  refine (HP _).out.mono ?_; rintro e w2 ⟨⟨v2, rfl, hv2⟩, hb2⟩
  have b2 := hid (bnext b1.out hb2); have V2 := hid hv2; clear hb2 hv2
  go_wp2_with fail
  refine (HW _ _ V2.out (HL.out.call b2.out)).out.mono ?_
  rintro e w3 ⟨h3, hb3⟩
  rcases h3 with ⟨-, v3, rfl, hv3⟩ | ⟨h3, -⟩
  · have b3 := hid (bnext b2.out hb3); have V3 := hid hv3; clear hb3 hv3
    go_wp2_with fail
    refine (HR _ _ V3.out (HL.out.call b3.out)).out.mono ?_; rintro e w4 ⟨rfl, hb4⟩
    have b4 := hid (bnext b3.out hb4); clear hb4
    go_wp2_with fail
    go_ret2
    exact ⟨rfl, b4.out⟩
  · exact absurd h3 (by have := HD.out; omega)
theorem two_digits {n : Nat} (h : n ≤ 1000) : nDigits (2 ^ n) ≤ 4000 := by
  have h1 : 2 ^ n < 10 ^ (n + 1) := by
    have h2 : 2 ^ n ≤ 10 ^ n := Nat.pow_le_pow_left (by omega) n
    have h3 : 10 ^ n < 10 ^ (n + 1) := Nat.pow_lt_pow_right (by omega) (by omega)
    omega
  exact Nat.le_trans (nDigits_le (Nat.succ_pos n) h1) (by omega)
theorem bN_two : bN ⟨#[50]⟩ = 2 := by decide
theorem errN_two : errN (⟨#[50]⟩ : ByteArray).data.toList = 0 := by decide
end Go.Proofs.YtgphopkifomffaaGreatDoor
namespace Go.Proofs.YtgphopkifomffaaGreatDoor
open Go.RowKit Go.Shelf
open Go.Lib (decDigits nDigits)
set_option linter.unusedVariables false
set_option linter.unusedSimpArgs false
def shB (m t : Nat) : ByteArray := outB (qmk false m t)
theorem pk_make (w : World) (m t : Nat) (hm : nDigits m ≤ 4000) (ht : nDigits t ≤ 4000) (h0 : t ≠ 0) (hL : Lay w) :
    Calls Tryz.prog 98 #[.string (numB m), .string (numB t)] w fun e w' => e = .returned (.tuple #[.string (shB m t), .int .i64 (outE (qmk false m t))]) ∧ Below w.heap.size w w' := by
  have h := q_Make w (numB m) (numB t) (numB_sz hm) (numB_sz ht) hL
  have e := mk_num hm ht h0
  rwa [e.1, e.2] at h
end Go.Proofs.YtgphopkifomffaaGreatDoor
namespace Go.Proofs.YtgphopkifomffaaGreatDoor
open Go.RowKit Go.Shelf
open Go.Lib (decDigits nDigits)
set_option linter.unusedVariables false
set_option linter.unusedSimpArgs false
structure MRow (w : World) (v : Value) (L : List (ByteArray × ByteArray)) : Prop where
  ex : ∃ a c, v = .slice a L.length c ∧ L.length ≤ c ∧ c ≤ 9223372036854775807 ∧ ∀ (i : Nat) (x : ByteArray × ByteArray), L[i]? = some x → ∃ g o, a = some ⟨g, o, none⟩ ∧ g < w.heap.size ∧ w.cell? ⟨g, o + 2 * i, none⟩ = some (.string x.1) ∧ w.cell? ⟨g, o + 2 * i + 1, none⟩ = some (.string x.2)
theorem MRow.call {w w' : World} {v : Value} {L : List (ByteArray × ByteArray)} (h : MRow w v L) (hb : Below w.heap.size w w') : MRow w' v L := by
  obtain ⟨a, c, rfl, h1, h2, h3⟩ := h.ex
  refine ⟨a, c, rfl, h1, h2, fun i x hx => ?_⟩
  obtain ⟨g, o, rfl, hg, k1, k2⟩ := h3 i x hx
  exact ⟨g, o, rfl, Nat.lt_of_lt_of_le hg hb.size, (hb.cell (p := ⟨g, o + 2 * i, none⟩) hg).trans k1, (hb.cell (p := ⟨g, o + 2 * i + 1, none⟩) hg).trans k2⟩
theorem MRow.nil (w : World) : MRow w (.slice none 0 0) [] := ⟨none, 0, rfl, Nat.le_refl _, by omega, fun i x h => by simp at h⟩
theorem ne_tl {x y : ByteArray} (h : ¬ x = y) : ¬ x.toList = y.toList := fun e => h (by
  rw [Lib.toList_data, Lib.toList_data] at e
  exact ba_ext e)
set_option maxRecDepth 100000 in
set_option maxHeartbeats 2000000 in
theorem k_SameM (w : World) (v u : Value) (L M : List (ByteArray × ByteArray)) (hv : MRow w v L) (hu : MRow w u M) :
    Calls Tryz.prog 22 #[v, u] w fun e w' => e = .returned (.bool (decide (L = M))) ∧ Below w.heap.size w w' := by
  obtain ⟨a, c, rfl, h1, h2, h3⟩ := hv.ex
  obtain ⟨a', c', rfl, h1', h2', h3'⟩ := hu.ex
  obtain ⟨n, hn⟩ : ∃ n, L.length = n := ⟨_, rfl⟩
  obtain ⟨m, hm⟩ : ∃ n, M.length = n := ⟨_, rfl⟩
  rw [hn] at h1 ⊢
  rw [hm] at h1' ⊢
  have H3 := hid h3; have H3' := hid h3'; have HN := hid hn; have HM := hid hm
  clear hv hu h3 h3'
  by_cases hnm : n = m
  · subst hnm
    have q0 : ((n : Int) != (n : Int)) = false := by simp
    clear hn hm
    go_enter Tryz.func22, Tryz.ntmps22
    go_wp2_with fail
    go_loopw [5] (fun ii wr => ∃ i : Nat, ii = .int .i64 (i : Nat) ∧ i ≤ n ∧ Hid (∀ j, j < i → L[j]? = M[j]?) ∧ Hid (Below w.heap.size w wr)) (fun ii wr => n - (intOf ii).toNat)
    case atStart => exact ⟨0, rfl, Nat.zero_le _, fun j hj => absurd hj (by omega), Below.refl _ _⟩
    case round =>
      obtain ⟨i, rfl, hi, hI, hB⟩ := hrel
      by_cases hlt : i < n
      · obtain ⟨x, hx⟩ : ∃ x, L[i]? = some x := ⟨_, List.getElem?_eq_getElem (by rw [HN.out]; exact hlt)⟩
        obtain ⟨y, hy⟩ : ∃ x, M[i]? = some x := ⟨_, List.getElem?_eq_getElem (by rw [HM.out]; exact hlt)⟩
        obtain ⟨g, o, rfl, hg, k1, k2⟩ := H3.out i x hx
        obtain ⟨g', o', rfl, hg', k1', k2'⟩ := H3'.out i y hy
        obtain ⟨x1, x2⟩ := x
        obtain ⟨y1, y2⟩ := y
        have HX := hid hx; have HY := hid hy
        have m1 := (hB.out.cell (p := ⟨g, o + 2 * i, none⟩) hg).trans k1
        have m2 := (hB.out.cell (p := ⟨g, o + 2 * i + 1, none⟩) hg).trans k2
        have m3 := (hB.out.cell (p := ⟨g', o' + 2 * i, none⟩) hg').trans k1'
        have m4 := (hB.out.cell (p := ⟨g', o' + 2 * i + 1, none⟩) hg').trans k2'
        dsimp only at m1 m2 m3 m4
        rw [Nat.mul_comm 2 i] at m1 m2 m3 m4
        have b1 : (0 : Int) ≤ (i : Int) := by omega
        have b2 : (i : Int) < (n : Int) := by omega
        have wi : IntKind.i64.wrap ((i : Int) + 1) = (i : Int) + 1 := by rw [IntWalk.i64_in _ ⟨by omega, by omega⟩]
        clear k1 k2 k1' k2' hx hy hg hg'
        by_cases he1 : x1 = y1
        · subst he1
          by_cases he2 : x2 = y2
          · subst he2
            go_wp2_with fail
            refine held_plain [0, 1, 2, 3, 4, 5, 6, 7, 8] 0 (fun w' => w'.cell? ⟨g, o + i * 2, none⟩ = some (.string x1) ∧ w'.cell? ⟨g, o + i * 2 + 1, none⟩ = some (.string x2) ∧ w'.cell? ⟨g', o' + i * 2, none⟩ = some (.string x1) ∧ w'.cell? ⟨g', o' + i * 2 + 1, none⟩ = some (.string x2)) (by kernel_rfl) (by kernel_rfl) (by kernel_rfl) (by kernel_rfl) ⟨m1, m2, m3, m4⟩ ?_
            iterate 9
              refine ⟨_, rfl, ?_⟩
              apply Exists.intro
              refine ⟨.inl ⟨by rfl, ?_⟩, ?_⟩
              · (intro W' hW'; obtain ⟨q1, q2, q3, q4⟩ := hW'; go_simp; try (with_reducible rfl))
              (dsimp only [Act.put]; try simp only [List.setIfInBounds_toArray, List.set_cons_zero, List.set_cons_succ])
            refine wpAnyH_done (by kernel_rfl) ?_ _
            simp only [Only]
            go_wp2_with fail
            go_roundw
            case rel => exact ⟨i + 1, rfl, by omega, fun j hj => by
              rcases Nat.lt_or_ge j i with h | h
              · exact hI.out j h
              · obtain rfl : j = i := by omega
                rw [HX.out, HY.out], hB.out.drew⟩
            case measure => simp [intOf] <;> omega
          · have n2 := ne_tl he2
            have hne : decide (L = M) = false := by
              rw [decide_eq_false_iff_not]; rintro rfl
              have := HX.out.symm.trans HY.out
              simp only [Option.some.injEq, Prod.mk.injEq] at this
              exact he2 this.2
            have HNE := hid hne
            clear hne he2
            go_wp2_with fail
            refine held_plain [0, 1, 2, 3, 4, 5, 6, 7, 8] 0 (fun w' => w'.cell? ⟨g, o + i * 2, none⟩ = some (.string x1) ∧ w'.cell? ⟨g, o + i * 2 + 1, none⟩ = some (.string x2) ∧ w'.cell? ⟨g', o' + i * 2, none⟩ = some (.string x1) ∧ w'.cell? ⟨g', o' + i * 2 + 1, none⟩ = some (.string y2)) (by kernel_rfl) (by kernel_rfl) (by kernel_rfl) (by kernel_rfl) ⟨m1, m2, m3, m4⟩ ?_
            iterate 9
              refine ⟨_, rfl, ?_⟩
              apply Exists.intro
              refine ⟨.inl ⟨by rfl, ?_⟩, ?_⟩
              · (intro W' hW'; obtain ⟨q1, q2, q3, q4⟩ := hW'; go_simp; try (with_reducible rfl))
              (dsimp only [Act.put]; try simp only [List.setIfInBounds_toArray, List.set_cons_zero, List.set_cons_succ])
            refine wpAnyH_done (by kernel_rfl) ?_ _
            simp only [Only]
            go_wp2_with fail
            go_ret
            exact ⟨by rw [HNE.out]; rfl, hB.out.drew⟩
        · have n1 := ne_tl he1
          have hne : decide (L = M) = false := by
            rw [decide_eq_false_iff_not]; rintro rfl
            have := HX.out.symm.trans HY.out
            simp only [Option.some.injEq, Prod.mk.injEq] at this
            exact he1 this.1
          have HNE := hid hne
          clear hne he1
          go_wp2_with fail
          refine held_plain [0, 1, 2, 3, 4, 5, 6, 7, 8] 0 (fun w' => w'.cell? ⟨g, o + i * 2, none⟩ = some (.string x1) ∧ w'.cell? ⟨g, o + i * 2 + 1, none⟩ = some (.string x2) ∧ w'.cell? ⟨g', o' + i * 2, none⟩ = some (.string y1) ∧ w'.cell? ⟨g', o' + i * 2 + 1, none⟩ = some (.string y2)) (by kernel_rfl) (by kernel_rfl) (by kernel_rfl) (by kernel_rfl) ⟨m1, m2, m3, m4⟩ ?_
          iterate 9
            refine ⟨_, rfl, ?_⟩
            apply Exists.intro
            refine ⟨.inl ⟨by rfl, ?_⟩, ?_⟩
            · (intro W' hW'; obtain ⟨q1, q2, q3, q4⟩ := hW'; go_simp; try (with_reducible rfl))
            (dsimp only [Act.put]; try simp only [List.setIfInBounds_toArray, List.set_cons_zero, List.set_cons_succ])
          refine wpAnyH_done (by kernel_rfl) ?_ _
          simp only [Only]
          go_wp2_with fail
          go_ret
          exact ⟨by rw [HNE.out]; rfl, hB.out.drew⟩
      · obtain rfl : i = n := by omega
        have hE : L = M := by
          apply List.ext_getElem?
          intro j
          by_cases hj : j < i
          · exact hI.out j hj
          · rw [List.getElem?_eq_none (by rw [HN.out]; omega), List.getElem?_eq_none (by rw [HM.out]; omega)]
        have HE := hid hE
        have q1 : decide ((i : Int) < (i : Int)) = false := by simp
        clear hlt hE
        go_wp2_with fail
        go_ret
        exact ⟨by rw [decide_eq_true HE.out]; rfl, hB.out⟩
  · have q0 : ((n : Int) != (m : Int)) = true := by rw [bne_iff_ne]; omega
    have hne : decide (L = M) = false := by
      rw [decide_eq_false_iff_not]; rintro rfl; exact hnm (hn.symm.trans hm)
    have HNE := hid hne
    clear hne hnm hn hm
    go_enter Tryz.func22, Tryz.ntmps22
    go_wp2_with fail
    go_ret
    exact ⟨by rw [HNE.out]; rfl, Below.refl _ _⟩
end Go.Proofs.YtgphopkifomffaaGreatDoor
namespace Go.Proofs.YtgphopkifomffaaGreatDoor
open Go.RowKit Go.Shelf Go.Maps
open Go.Lib (decDigits nDigits)
set_option linter.unusedVariables false
set_option linter.unusedSimpArgs false
attribute [local go_sem] Oper.semAt_some
def lateB : ByteArray := ⟨#[108, 97, 116, 101]⟩
theorem outB_size (q : Rat) : (outB q).size ≤ 10000 := by
  unfold outB
  split
  · exact (by decide : (0 : Nat) ≤ 10000)
  · rename_i h
    unfold ovQ at h
    have h1 := list_size (txQ q)
    unfold txQ at h1 ⊢
    rw [txB_list] at h1
    rw [← h1]
    simp only [List.length_append, Lib.decDigits_length]
    have e1 : (if decide (q.num < 0) = true then [45] else ([] : List UInt8)).length ≤ 1 := by split <;> simp
    have e2 : (if q.den = 1 then [] else (47 : UInt8) :: decDigits q.den).length ≤ 4001 := by
      split
      · simp
      · simp only [List.length_cons, Lib.decDigits_length]; omega
    omega
end Go.Proofs.YtgphopkifomffaaGreatDoor
namespace Go.Proofs.YtgphopkifomffaaGreatDoor
open Go.RowKit Go.Shelf
open Go.Lib (decDigits nDigits)
set_option linter.unusedVariables false
set_option linter.unusedSimpArgs false
def LayS (w : World) : Prop := ∃ ev, w.cell? ⟨0, 0, none⟩ = some ev ∧ (ev = .nilIface ∨ ∃ te pe, ev = .iface te pe)
theorem LayS.call {w w' : World} (h : LayS w) (hb : Below w.heap.size w w') : LayS w' := by
  obtain ⟨ev, h1, h2⟩ := h
  exact ⟨ev, (hb.cell (World.block_lt_of_cell? w _ h1)).trans h1, h2⟩
structure LayB (w : World) : Prop where
  l : Lay w
  s : LayS w
theorem LayB.call {w w' : World} (h : LayB w) (hb : Below w.heap.size w w') : LayB w' := ⟨h.l.call hb, h.s.call hb⟩
theorem b_AtoiL (w : World) (h : LayS w) :
    Calls Tryz.prog 57 #[.string lateB] w fun e w' => (∃ te pe, e = .returned (.tuple #[.int .i64 0, .iface te pe])) ∧ Below w.heap.size w w' := by
  obtain ⟨ev, h1, h2⟩ := h
  have := Any.strconv_Atoi_err Tryz.laysC172 lateB (by decide) (by decide) ev w h1 h2
  change Calls Tryz.prog 57 _ _ _ at this
  refine this.mono ?_
  rintro e w' ⟨N, rfl, -, -, hb⟩
  exact ⟨⟨_, _, rfl⟩, hb⟩
end Go.Proofs.YtgphopkifomffaaGreatDoor
namespace Go.Proofs.YtgphopkifomffaaGreatDoor
open Go.ChangeShapes Go.WideShapes Go.ChangeAt Go.RowKit
set_option linter.unusedVariables false
theorem trod_iface {H : Type} {enc : TypeId × Value → H} {P : Program} {w : World} {b0 : Nat} {sp : Nat → Bool} {held : Bool} {fuel : Nat} {t : TypeId} {cs : List Value} {d : DataW H} {p : List MemPlace} {ms} (ht : P.underlying t = some (.interface ms)) (h : DataW.trod enc P w b0 sp held fuel t cs = some (d, p)) : cs = [.nilIface] ∨ ∃ u v, cs = [.iface u v] := by
  cases fuel with
  | zero => simp [DataW.trod] at h
  | succ n =>
    rcases cs with _ | ⟨a, _ | ⟨b, r⟩⟩
    · simp [DataW.trod, ht] at h
    · cases a <;> simp [DataW.trod, ht] at h
      · exact .inr ⟨_, _, rfl⟩
      · exact .inl rfl
    · simp [DataW.trod, ht] at h
theorem syntax_at : Tryz.prog.globalNamed "strconv.ErrSyntax" = some 0 := by kernel_rfl
theorem syntax_type : (Tryz.prog.globals[0]?).map (·.type) = some 94 := by kernel_rfl
theorem layB_of {W : World} (h : laidMetH Tryz.prog Rows.noiseCountsRow.laid W) (hsh : W.ShapedOpen Tryz.prog) : LayB W := by
  refine ⟨lay_of h hsh, ?_⟩
  rw [MakeChecks.laidMetH_plain _ _ _ (by kernel_rfl)] at h
  obtain ⟨ps, ⟨g0, t0, cs0, f0, p0, q0, hg0, ht0, hv0, hd0, ⟨g1, t1, cs1, f1, p1, q1, hg1, ht1, hv1, hd1, ⟨g2, t2, cs2, f2, p2, q2, hg2, ht2, hv2, hd2, ⟨g3, t3, cs3, f3, p3, q3, hg3, ht3, hv3, hd3, ⟨g4, t4, cs4, f4, p4, q4, hg4, ht4, hv4, hd4, ⟨g5, t5, cs5, f5, p5, q5, hg5, ht5, hv5, hd5, _, _⟩, _⟩, _⟩, _⟩, _⟩, _⟩, _, _⟩ := h
  obtain rfl := Option.some.inj (syntax_at.symm.trans hg5)
  obtain rfl := Option.some.inj (syntax_type.symm.trans ht5)
  have h1 := trod_iface Tryz.underlying94 hd5
  unfold World.var? at hv5
  rw [syntax_at] at hv5
  simp only [Option.bind_some] at hv5
  split at hv5
  · rename_i cs t fr ho
    cases hv5
    rcases h1 with h1 | ⟨u, v, h1⟩
    · have e : cs5 = #[.nilIface] := by cases cs5; simpa using h1
      exact ⟨.nilIface, by simp [World.cell?, ho, e], .inl rfl⟩
    · have e : cs5 = #[.iface u v] := by cases cs5; simpa using h1
      exact ⟨.iface u v, by simp [World.cell?, ho, e], .inr ⟨_, _, rfl⟩⟩
  · cases hv5
end Go.Proofs.YtgphopkifomffaaGreatDoor
namespace Go.Proofs.YtgphopkifomffaaGreatDoor
open Go.RowKit
set_option linter.unusedVariables false
def allW : Nat → List (List UInt8)
  | 0 => [[]]
  | n + 1 => (allW n).flatMap fun l => [l ++ [48], l ++ [49]]
theorem allW_len : ∀ {n : Nat} {l : List UInt8}, l ∈ allW n → l.length = n
  | 0, l, h => by simp [allW] at h; subst h; rfl
  | n + 1, l, h => by
    simp only [allW, List.mem_flatMap] at h
    obtain ⟨m, hm, hl⟩ := h
    have := allW_len hm
    simp at hl
    rcases hl with rfl | rfl <;> simp [this]
theorem allW_bits : ∀ {n : Nat} {l : List UInt8}, l ∈ allW n → ∀ b ∈ l, b = 48 ∨ b = 49
  | 0, l, h => by simp [allW] at h; subst h; simp
  | n + 1, l, h => by
    simp only [allW, List.mem_flatMap] at h
    obtain ⟨m, hm, hl⟩ := h
    have := allW_bits hm
    simp at hl
    rcases hl with rfl | rfl <;> (intro b hb; rcases List.mem_append.1 hb with hb | hb; exact this b hb; simp at hb; simp [hb])
theorem allW_length : ∀ n, (allW n).length = 2 ^ n
  | 0 => rfl
  | n + 1 => by
    have h : ∀ L : List (List UInt8), (L.flatMap fun l => [l ++ [48], l ++ [49]]).length = 2 * L.length := fun L => by
      induction L with
      | nil => rfl
      | cons a r ih => rw [List.flatMap_cons, List.length_append, ih, List.length_cons]; simp; omega
    rw [allW, h, allW_length n, Nat.pow_succ]; omega
def sumN (c : Nat → Nat) : Nat → Nat
  | 0 => 0
  | i + 1 => sumN c i + c i
theorem sumN_congr {c d : Nat → Nat} : ∀ {N : Nat}, (∀ i, i < N → c i = d i) → sumN c N = sumN d N
  | 0, _ => rfl
  | N + 1, h => by rw [sumN, sumN, sumN_congr (fun i hi => h i (by omega)), h N (by omega)]
theorem sumN_add (c d : Nat → Nat) : ∀ N, sumN (fun i => c i + d i) N = sumN c N + sumN d N
  | 0 => rfl
  | N + 1 => by rw [sumN, sumN, sumN, sumN_add c d N]; omega
theorem sumN_zero : ∀ N, sumN (fun _ => 0) N = 0
  | 0 => rfl
  | N + 1 => by rw [sumN, sumN_zero N]
theorem sumN_one (j : Nat) : ∀ N, sumN (fun i => if j = i then 1 else 0) N = if j < N then 1 else 0
  | 0 => by simp [sumN]
  | N + 1 => by
    rw [sumN, sumN_one j N]
    by_cases h1 : j < N
    · rw [if_pos h1, if_neg (by omega), if_pos (by omega)]
    · rw [if_neg h1]
      by_cases h2 : j = N
      · rw [if_pos h2, if_pos (by omega)]
      · rw [if_neg h2, if_neg (by omega)]
theorem count_all {α : Type} (g : α → Bool × Nat) (N : Nat) : ∀ L : List α, (∀ x ∈ L, (g x).1 = true → (g x).2 < N) → sumN (fun i => L.countP (fun x => (g x).1 && decide ((g x).2 = i))) N + L.countP (fun x => !(g x).1) = L.length
  | [], _ => by simp [sumN_zero]
  | x :: r, h => by
    have ih := count_all g N r (fun y hy => h y (List.mem_cons_of_mem _ hy))
    simp only [List.countP_cons]
    rw [sumN_add, List.length_cons]
    cases hx : (g x).1
    · simp only [Bool.false_and, Bool.not_false, if_true]
      rw [show sumN (fun i => if false = true then 1 else 0) N = 0 by simpa using sumN_zero N]
      omega
    · have h1 := h x (List.mem_cons_self ..) hx
      simp only [Bool.true_and, decide_eq_true_eq]
      rw [sumN_one, if_pos h1]
      simp
      omega
end Go.Proofs.YtgphopkifomffaaGreatDoor
namespace Go.Proofs.YtgphopkifomffaaGreatDoor
set_option linter.unusedVariables false
theorem sumN_shift (f : Nat → Nat) : ∀ n, sumN f (n + 1) = f 0 + sumN (fun i => f (i + 1)) n
  | 0 => by simp [sumN]
  | n + 1 => by rw [sumN, sumN_shift f n, sumN]; omega
theorem sumN_mul (k : Nat) (f : Nat → Nat) : ∀ n, sumN (fun i => k * f i) n = k * sumN f n
  | 0 => rfl
  | n + 1 => by rw [sumN, sumN, sumN_mul k f n, Nat.mul_add]
theorem sumN_le {f g : Nat → Nat} : ∀ {n : Nat}, (∀ i, i < n → f i ≤ g i) → sumN f n ≤ sumN g n
  | 0, _ => Nat.le_refl _
  | n + 1, h => by
    rw [sumN, sumN]
    have := sumN_le (n := n) fun i hi => h i (by omega)
    have := h n (by omega)
    omega
theorem sumN_mono {f : Nat → Nat} {m n : Nat} (h : m ≤ n) : sumN f m ≤ sumN f n := by
  induction n with
  | zero => rw [show m = 0 by omega]; exact Nat.le_refl _
  | succ n ih =>
    rcases Nat.lt_or_ge n m with h1 | h1
    · rw [show m = n + 1 by omega]; exact Nat.le_refl _
    · have := ih h1; rw [sumN]; omega
theorem sumN_at {f : Nat → Nat} {i n : Nat} (h : i < n) : f i ≤ sumN f n := by
  have h1 : sumN f (i + 1) ≤ sumN f n := sumN_mono (by omega)
  rw [sumN] at h1; omega
def cvo (f g : Nat → Nat) (n : Nat) : Nat := sumN (fun s => f s * g (n - s)) (n + 1)
theorem cvo_congr {f f' g g' : Nat → Nat} {n : Nat} (h1 : ∀ s, s ≤ n → f s = f' s) (h2 : ∀ s, s ≤ n → g s = g' s) : cvo f g n = cvo f' g' n := by
  unfold cvo
  refine sumN_congr fun s hs => ?_
  rw [h1 s (by omega), h2 (n - s) (by omega)]
theorem flip_sum : ∀ (n : Nat) (a : Nat → Nat → Nat), sumN (fun s => a s (n - s)) (n + 1) = sumN (fun s => a (n - s) s) (n + 1)
  | 0, a => by simp [sumN]
  | n + 1, a => by
    have ih := flip_sum n fun x y => a (x + 1) y
    rw [sumN_shift]
    have e1 : sumN (fun i => a (i + 1) (n + 1 - (i + 1))) (n + 1) = sumN (fun s => a (s + 1) (n - s)) (n + 1) := sumN_congr fun i _ => by rw [show n + 1 - (i + 1) = n - i by omega]
    have e2 : sumN (fun s => a (n - s + 1) s) (n + 1) = sumN (fun s => a (n + 1 - s) s) (n + 1) := sumN_congr fun i hi => by rw [show n + 1 - i = n - i + 1 by omega]
    rw [e1, ih, e2]
    show _ = sumN (fun s => a (n + 1 - s) s) (n + 1) + a (n + 1 - (n + 1)) (n + 1)
    rw [Nat.sub_self, Nat.sub_zero]; omega
theorem cvo_comm (f g : Nat → Nat) (n : Nat) : cvo f g n = cvo g f n := by
  unfold cvo
  rw [flip_sum n fun x y => f x * g y]
  exact sumN_congr fun s _ => Nat.mul_comm _ _
theorem tri_sum : ∀ (n : Nat) (a : Nat → Nat → Nat → Nat), sumN (fun s => sumN (fun u => a u (s - u) (n - s)) (s + 1)) (n + 1) = sumN (fun u => sumN (fun t => a u t (n - u - t)) (n - u + 1)) (n + 1)
  | 0, a => by simp [sumN]
  | n + 1, a => by
    have ih := tri_sum n fun x y z => a (x + 1) y z
    have e1 : sumN (fun s => sumN (fun u => a u (s - u) (n + 1 - s)) (s + 1)) (n + 1 + 1) = sumN (fun s => a 0 s (n + 1 - s)) (n + 1 + 1) + sumN (fun s => sumN (fun u => a (u + 1) (s - u) (n - s)) (s + 1)) (n + 1) := by
      have h : ∀ s, sumN (fun u => a u (s - u) (n + 1 - s)) (s + 1) = a 0 s (n + 1 - s) + sumN (fun u => a (u + 1) (s - (u + 1)) (n + 1 - s)) s := fun s => by rw [sumN_shift, Nat.sub_zero]
      rw [sumN_congr (fun s _ => h s), sumN_add]
      congr 1
      rw [sumN_shift]
      simp only [sumN, Nat.zero_add]
      rw [← sumN]
      refine sumN_congr fun s _ => ?_
      rw [show sumN (fun u => a (u + 1) (s + 1 - (u + 1)) (n + 1 - (s + 1))) s + a (s + 1) (s + 1 - (s + 1)) (n + 1 - (s + 1)) = sumN (fun u => a (u + 1) (s + 1 - (u + 1)) (n + 1 - (s + 1))) (s + 1) from rfl]
      rw [show sumN (fun u => a (u + 1) (s - u) (n - s)) s + a (s + 1) (s - s) (n - s) = sumN (fun u => a (u + 1) (s - u) (n - s)) (s + 1) from rfl]
      refine sumN_congr fun u _ => ?_
      rw [show s + 1 - (u + 1) = s - u by omega, show n + 1 - (s + 1) = n - s by omega]
    rw [e1, ih, sumN_shift (fun u => sumN (fun t => a u t (n + 1 - u - t)) (n + 1 - u + 1))]
    congr 1
    refine sumN_congr fun u hu => ?_
    rw [show n + 1 - (u + 1) + 1 = n - u + 1 by omega]
    exact sumN_congr fun t _ => by rw [show n + 1 - (u + 1) - t = n - u - t by omega]
theorem cvo_assoc (f g h : Nat → Nat) (n : Nat) : cvo (cvo f g) h n = cvo f (cvo g h) n := by
  unfold cvo
  have e1 : sumN (fun s => sumN (fun s_1 => f s_1 * g (s - s_1)) (s + 1) * h (n - s)) (n + 1) = sumN (fun s => sumN (fun u => f u * g (s - u) * h (n - s)) (s + 1)) (n + 1) := sumN_congr fun s _ => by
    rw [Nat.mul_comm, ← sumN_mul]
    exact sumN_congr fun u _ => Nat.mul_comm _ _
  have e2 : sumN (fun s => f s * sumN (fun s_1 => g s_1 * h (n - s - s_1)) (n - s + 1)) (n + 1) = sumN (fun u => sumN (fun t => f u * g t * h (n - u - t)) (n - u + 1)) (n + 1) := sumN_congr fun s _ => by
    rw [← sumN_mul]
    exact sumN_congr fun u _ => by rw [Nat.mul_assoc]
  rw [e1, e2]
  exact tri_sum n fun x y z => f x * g y * h z
def chi (c : Nat → Bool) (j : Nat) : Nat := if c j = true then 1 else 0
theorem chi_le (c : Nat → Bool) (j : Nat) : chi c j ≤ 1 := by unfold chi; split <;> omega
def cvF (c : Nat → Bool) (f : Nat → Nat) : Nat → Nat → Nat
  | _, 0 => 0
  | j, n + 1 => (if c (j + 1) = true then f n else 0) + cvF c f (j + 1) n
theorem cvF_none {c : Nat → Bool} {f : Nat → Nat} : ∀ (n j : Nat), (∀ i, j < i → c i = false) → cvF c f j n = 0
  | 0, _, _ => rfl
  | n + 1, j, h => by
    rw [cvF, if_neg (by simp [h (j + 1) (by omega)]), cvF_none n (j + 1) fun i hi => h i (by omega)]
theorem cvF_sum (c : Nat → Bool) (f : Nat → Nat) : ∀ n j, cvF c f j n = sumN (fun i => chi c (j + i + 1) * f (n - (i + 1))) n
  | 0, j => rfl
  | n + 1, j => by
    rw [cvF, cvF_sum c f n (j + 1), sumN_shift]
    congr 1
    · unfold chi
      rw [show j + 0 + 1 = j + 1 by omega, show n + 1 - (0 + 1) = n by omega]
      split <;> simp
    · exact sumN_congr fun i _ => by rw [show j + 1 + i + 1 = j + (i + 1) + 1 by omega, show n - (i + 1) = n + 1 - (i + 1 + 1) by omega]
theorem cvo_chi (c : Nat → Bool) (f : Nat → Nat) (n : Nat) : cvo (chi c) f n = (if c 0 = true then f n else 0) + cvF c f 0 n := by
  unfold cvo
  rw [sumN_shift, cvF_sum]
  congr 1
  · unfold chi
    rw [Nat.sub_zero]
    split <;> simp
  · exact sumN_congr fun i _ => by rw [show 0 + i + 1 = i + 1 by omega]
def dlt (j : Nat) : Nat := if j = 0 then 1 else 0
theorem cvo_dlt (f : Nat → Nat) (n : Nat) : cvo dlt f n = f n := by
  unfold cvo
  rw [sumN_shift]
  have : sumN (fun i => dlt (i + 1) * f (n - (i + 1))) n = sumN (fun _ => 0) n := sumN_congr fun i _ => by unfold dlt; simp
  rw [this, sumN_zero]
  unfold dlt
  simp
def pw2 (j : Nat) : Nat := 2 ^ j
end Go.Proofs.YtgphopkifomffaaGreatDoor
namespace Go.Proofs.YtgphopkifomffaaGreatDoor
open Go.RowKit
def sdx (N D : Nat) : Nat → Nat × Bool
  | 0 => (N, decide (N ≠ 0))
  | j + 1 => if (sdx N D j).2 = true then (if D ≤ 2 * (sdx N D j).1 then (2 * (sdx N D j).1 - D, decide (2 * (sdx N D j).1 ≠ D)) else (2 * (sdx N D j).1, true)) else sdx N D j
def oneJ (N D : Nat) : Nat → Bool
  | 0 => false
  | j + 1 => (sdx N D j).2 && decide (D ≤ 2 * (sdx N D j).1)
def zeroJ (N D : Nat) : Nat → Bool
  | 0 => decide (N = 0)
  | j + 1 => (sdx N D j).2 && decide (2 * (sdx N D j).1 ≤ D)
theorem sdx_shut {N D j : Nat} (h : (sdx N D j).2 = false) : ∀ i, j ≤ i → (sdx N D i).2 = false
  | 0, hi => by rw [show j = 0 by omega] at h; exact h
  | i + 1, hi => by
    rcases Nat.lt_or_ge i j with h1 | h1
    · rw [← show j = i + 1 by omega]; exact h
    · have := sdx_shut h i h1
      rw [sdx, if_neg (by simp [this])]; exact this
theorem oneJ_shut {N D j : Nat} (h : (sdx N D j).2 = false) (i : Nat) (hi : j < i) : oneJ N D i = false := by
  cases i with
  | zero => rfl
  | succ i => rw [oneJ, sdx_shut h i (by omega)]; rfl
theorem zeroJ_shut {N D j : Nat} (h : (sdx N D j).2 = false) (i : Nat) (hi : j < i) : zeroJ N D i = false := by
  cases i with
  | zero => omega
  | succ i => rw [zeroJ, sdx_shut h i (by omega)]; rfl
theorem sdx_lt {N D : Nat} (h : N < D) : ∀ j, (sdx N D j).1 < D
  | 0 => h
  | j + 1 => by
    have := sdx_lt h j
    rw [sdx]
    split
    · split
      · dsimp only; omega
      · dsimp only; omega
    · exact this
def tabL (f : Nat → Bool) (n j : Nat) : List Value := (List.range (n + 1)).map fun i => .bool (decide (i < j) && f i)
@[simp] theorem tabL_length (f : Nat → Bool) (n j : Nat) : (tabL f n j).length = n + 1 := by simp [tabL]
theorem tabL_get {f : Nat → Bool} {n j i : Nat} (h : i ≤ n) : (tabL f n j)[i]? = some (.bool (decide (i < j) && f i)) := by simp [tabL, List.getElem?_range (show i < n + 1 by omega)]
theorem tabL_set {f : Nat → Bool} {n j : Nat} (h : j ≤ n) : (tabL f n j).set j (.bool (f j)) = tabL f n (j + 1) := by
  apply List.ext_getElem?
  intro i
  rw [List.getElem?_set]
  by_cases hi : j = i
  · subst hi
    rw [if_pos rfl, if_pos (by simp; omega), tabL_get h]
    simp
  · rw [if_neg hi]
    by_cases h2 : i ≤ n
    · rw [tabL_get h2, tabL_get h2]
      congr 2
      by_cases h3 : i < j
      · simp [h3, show i < j + 1 by omega]
      · simp [h3, show ¬ i < j + 1 by omega]
    · rw [List.getElem?_eq_none (by simp; omega), List.getElem?_eq_none (by simp; omega)]
theorem tabL_shut {f : Nat → Bool} {n j : Nat} (h : ∀ i, j ≤ i → f i = false) : ∀ k, j ≤ k → tabL f n k = tabL f n j := by
  intro k hk
  apply List.ext_getElem?
  intro i
  by_cases h2 : i ≤ n
  · rw [tabL_get h2, tabL_get h2]
    by_cases h3 : i < j
    · simp [h3, show i < k by omega]
    · simp [h i (by omega)]
  · rw [List.getElem?_eq_none (by simp; omega), List.getElem?_eq_none (by simp; omega)]
theorem tabL_skip {f : Nat → Bool} {n j : Nat} (h : f j = false) : tabL f n (j + 1) = tabL f n j := by
  apply List.ext_getElem?
  intro i
  by_cases h2 : i ≤ n
  · rw [tabL_get h2, tabL_get h2]
    by_cases h3 : i < j
    · simp [h3, show i < j + 1 by omega]
    · by_cases h4 : i = j
      · subst h4; simp [h]
      · simp [h3, show ¬ i < j + 1 by omega]
  · rw [List.getElem?_eq_none (by simp; omega), List.getElem?_eq_none (by simp; omega)]
theorem tabL_zero (f : Nat → Bool) (n : Nat) : tabL f n 0 = List.replicate (n + 1) (.bool false) := by
  apply List.ext_getElem?
  intro i
  by_cases h2 : i ≤ n
  · rw [tabL_get h2, List.getElem?_replicate, if_pos (by omega)]; simp
  · rw [List.getElem?_eq_none (by simp; omega), List.getElem?_eq_none (by simp; omega)]
def allB (f : Nat → Bool) (n : Nat) : List Value := (List.range (n + 1)).map fun i => .bool (f i)
theorem allB_get {f : Nat → Bool} {n i : Nat} (h : i ≤ n) : (allB f n)[i]? = some (.bool (f i)) := by simp [allB, List.getElem?_range (show i < n + 1 by omega)]
theorem tabL_full (f : Nat → Bool) (n : Nat) {j : Nat} (h : n < j) : tabL f n j = allB f n := by
  unfold allB
  apply List.ext_getElem?
  intro i
  by_cases h2 : i ≤ n
  · rw [tabL_get h2]
    simp [List.getElem?_range (show i < n + 1 by omega), show i < j by omega]
  · rw [List.getElem?_eq_none (by simp; omega), List.getElem?_eq_none (by simp; omega)]
end Go.Proofs.YtgphopkifomffaaGreatDoor
namespace Go.Proofs.YtgphopkifomffaaGreatDoor
open Go.RowKit
set_option linter.unusedVariables false
def cw : Nat → (List UInt8 → Bool) → Nat
  | 0, P => if P [] = true then 1 else 0
  | n + 1, P => cw n (fun l => P (48 :: l)) + cw n (fun l => P (49 :: l))
theorem cw_congr : ∀ {n : Nat} {P Q : List UInt8 → Bool}, (∀ l, l.length = n → P l = Q l) → cw n P = cw n Q
  | 0, P, Q, h => by rw [cw, cw, h [] rfl]
  | n + 1, P, Q, h => by
    rw [cw, cw, cw_congr (n := n) (fun l hl => h (48 :: l) (by simp [hl])), cw_congr (n := n) (fun l hl => h (49 :: l) (by simp [hl]))]
theorem cw_snoc : ∀ (n : Nat) (P : List UInt8 → Bool), cw (n + 1) P = cw n (fun l => P (l ++ [48])) + cw n (fun l => P (l ++ [49]))
  | 0, P => by simp [cw]
  | n + 1, P => by
    rw [cw, cw_snoc n, cw_snoc n, cw, cw]
    simp only [List.cons_append]
    omega
theorem countP_two (L : List (List UInt8)) (P : List UInt8 → Bool) : (L.flatMap fun l => [l ++ [48], l ++ [49]]).countP P = L.countP (fun l => P (l ++ [48])) + L.countP (fun l => P (l ++ [49])) := by
  induction L with
  | nil => rfl
  | cons a r ih =>
    rw [List.flatMap_cons, List.countP_append, ih]
    simp only [List.countP_cons, List.countP_nil]
    omega
theorem cw_all : ∀ (n : Nat) (P : List UInt8 → Bool), (allW n).countP P = cw n P
  | 0, P => by simp [allW, cw]
  | n + 1, P => by rw [allW, countP_two, cw_all n, cw_all n, ← cw_snoc]
theorem cw_true : ∀ n, cw n (fun _ => true) = 2 ^ n
  | 0 => rfl
  | n + 1 => by rw [cw, cw_true n, Nat.pow_succ]; omega
theorem cw_false : ∀ n, cw n (fun _ => false) = 0
  | 0 => rfl
  | n + 1 => by rw [cw, cw_false n]
def coinP (N D K T : Nat) (P1 P0 : List UInt8 → Bool) (l : List UInt8) : Bool :=
  (toss N D K T l).1 && (if (toss N D K T l).2.1 = 1 then P1 (l.drop (toss N D K T l).2.2) else P0 (l.drop (toss N D K T l).2.2))
theorem toss_set {N D K T : Nat} {l : List UInt8} (h : sdB N D K T = true) : toss N D K T l = (true, sdV N D K T, 0) := by
  unfold toss; rw [if_pos h]
theorem toss_cons {N D K T : Nat} {b : UInt8} {l : List UInt8} (h : sdB N D K T = false) : toss N D K T (b :: l) = ((toss N D (2 * K + (if b = 49 then 1 else 0)) (2 * T) l).1, (toss N D (2 * K + (if b = 49 then 1 else 0)) (2 * T) l).2.1, (toss N D (2 * K + (if b = 49 then 1 else 0)) (2 * T) l).2.2 + 1) := by
  rw [toss, if_neg (by simp [h])]
theorem toss_nil {N D K T : Nat} (h : sdB N D K T = false) : toss N D K T [] = (false, 0, 0) := by
  rw [toss, if_neg (by simp [h])]
theorem coinP_set1 {N D K T : Nat} {P1 P0 : List UInt8 → Bool} {l : List UInt8} (h : sdB N D K T = true) (hv : sdV N D K T = 1) : coinP N D K T P1 P0 l = P1 l := by
  unfold coinP; rw [toss_set h]; simp [hv]
theorem coinP_set0 {N D K T : Nat} {P1 P0 : List UInt8 → Bool} {l : List UInt8} (h : sdB N D K T = true) (hv : sdV N D K T = 0) : coinP N D K T P1 P0 l = P0 l := by
  unfold coinP; rw [toss_set h]; simp [hv]
theorem coinP_cons {N D K T : Nat} {P1 P0 : List UInt8 → Bool} {b : UInt8} {l : List UInt8} (h : sdB N D K T = false) : coinP N D K T P1 P0 (b :: l) = coinP N D (2 * K + (if b = 49 then 1 else 0)) (2 * T) P1 P0 l := by
  unfold coinP; rw [toss_cons h]; simp
theorem coinP_nil {N D K T : Nat} {P1 P0 : List UInt8 → Bool} (h : sdB N D K T = false) : coinP N D K T P1 P0 [] = false := by
  unfold coinP; rw [toss_nil h]; rfl
structure OpenC (N D K T j x : Nat) : Prop where
  eq : N * T = K * D + x
  pos : 0 < x
  lt : x < D
  at_ : sdx N D j = (x, true)
theorem OpenC.undec {N D K T j x : Nat} (h : OpenC N D K T j x) : sdB N D K T = false := by
  obtain ⟨h1, h2, h3, -⟩ := h
  unfold sdB
  rw [Bool.or_eq_false_iff, decide_eq_false_iff_not, decide_eq_false_iff_not]
  omega
theorem twice_eq {N D K T x b : Nat} (h : N * T = K * D + x) : N * (2 * T) = 2 * (K * D) + 2 * x ∧ (2 * K + b) * D = 2 * (K * D) + b * D := by
  constructor
  · rw [Nat.mul_left_comm, h]; omega
  · rw [Nat.add_mul, Nat.mul_assoc]
theorem cw_coin {N D : Nat} {P1 P0 : List UInt8 → Bool} : ∀ (n : Nat) {K T j x : Nat}, OpenC N D K T j x → cw n (coinP N D K T P1 P0) = cvF (oneJ N D) (fun m => cw m P1) j n + cvF (zeroJ N D) (fun m => cw m P0) j n
  | 0, K, T, j, x, h => by rw [cw, coinP_nil h.undec]; rfl
  | n + 1, K, T, j, x, h => by
    have hu := h.undec
    obtain ⟨h1, h2, h3, h4⟩ := h
    have c0 : cw n (fun l => coinP N D K T P1 P0 (48 :: l)) = cw n (coinP N D (2 * K + 0) (2 * T) P1 P0) := cw_congr fun l _ => by rw [coinP_cons hu]; rfl
    have c1 : cw n (fun l => coinP N D K T P1 P0 (49 :: l)) = cw n (coinP N D (2 * K + 1) (2 * T) P1 P0) := cw_congr fun l _ => by rw [coinP_cons hu]; rfl
    rw [cw, c0, c1, cvF, cvF]
    have e1 := (twice_eq (b := 0) h1).1
    have e2 : (2 * K + 0) * D = 2 * (K * D) := by rw [Nat.add_zero, Nat.mul_assoc]
    have e3 : (2 * K + 1) * D = 2 * (K * D) + D := by rw [Nat.add_mul, Nat.mul_assoc, Nat.one_mul]
    have eo : oneJ N D (j + 1) = decide (D ≤ 2 * x) := by rw [oneJ, h4]; simp
    have ez : zeroJ N D (j + 1) = decide (2 * x ≤ D) := by rw [zeroJ, h4]; simp
    rw [eo, ez]
    rcases Nat.lt_trichotomy (2 * x) D with hc | hc | hc
    · -- a 0 leaves it open, a 1 gives 0
      have hs : sdx N D (j + 1) = (2 * x, true) := by rw [sdx, h4]; simp; omega
      have ih := cw_coin (N := N) (D := D) (P1 := P1) (P0 := P0) n (K := 2 * K + 0) (T := 2 * T) (j := j + 1) (x := 2 * x) ⟨by omega, by omega, hc, hs⟩
      have hd : sdB N D (2 * K + 1) (2 * T) = true := by unfold sdB; rw [Bool.or_eq_true, decide_eq_true_eq, decide_eq_true_eq]; left; omega
      have hv : sdV N D (2 * K + 1) (2 * T) = 0 := by unfold sdV; rw [if_pos (by omega)]
      rw [ih, cw_congr (n := n) (P := coinP N D (2 * K + 1) (2 * T) P1 P0) (Q := P0) (fun l _ => coinP_set0 hd hv), if_neg (by simp; omega), if_pos (by simp; omega)]
      omega
    · -- both give a result
      have hs : (sdx N D (j + 1)).2 = false := by rw [sdx, h4]; simp [hc]
      have hd0 : sdB N D (2 * K + 0) (2 * T) = true := by unfold sdB; rw [Bool.or_eq_true, decide_eq_true_eq, decide_eq_true_eq]; right; omega
      have hv0 : sdV N D (2 * K + 0) (2 * T) = 1 := by unfold sdV; rw [if_neg (by omega)]
      have hd1 : sdB N D (2 * K + 1) (2 * T) = true := by unfold sdB; rw [Bool.or_eq_true, decide_eq_true_eq, decide_eq_true_eq]; left; omega
      have hv1 : sdV N D (2 * K + 1) (2 * T) = 0 := by unfold sdV; rw [if_pos (by omega)]
      rw [cw_congr (n := n) (P := coinP N D (2 * K + 0) (2 * T) P1 P0) (Q := P1) (fun l _ => coinP_set1 hd0 hv0), cw_congr (n := n) (P := coinP N D (2 * K + 1) (2 * T) P1 P0) (Q := P0) (fun l _ => coinP_set0 hd1 hv1), if_pos (by simp; omega), if_pos (by simp; omega), cvF_none n (j + 1) (fun i hi => oneJ_shut hs i hi), cvF_none n (j + 1) (fun i hi => zeroJ_shut hs i hi)]
      rfl
    · -- a 1 leaves it open, a 0 gives 1
      have hs : sdx N D (j + 1) = (2 * x - D, true) := by
        rw [sdx, h4]
        show (if true = true then (if D ≤ 2 * x then (2 * x - D, decide (2 * x ≠ D)) else (2 * x, true)) else (x, true)) = _
        rw [if_pos rfl, if_pos (by omega), decide_eq_true (by omega)]
      have ih := cw_coin (N := N) (D := D) (P1 := P1) (P0 := P0) n (K := 2 * K + 1) (T := 2 * T) (j := j + 1) (x := 2 * x - D) ⟨by omega, by omega, by omega, hs⟩
      have hd : sdB N D (2 * K + 0) (2 * T) = true := by unfold sdB; rw [Bool.or_eq_true, decide_eq_true_eq, decide_eq_true_eq]; right; omega
      have hv : sdV N D (2 * K + 0) (2 * T) = 1 := by unfold sdV; rw [if_neg (by omega)]
      rw [ih, cw_congr (n := n) (P := coinP N D (2 * K + 0) (2 * T) P1 P0) (Q := P1) (fun l _ => coinP_set1 hd hv), if_pos (by simp; omega), if_neg (by simp; omega)]
      omega
theorem cw_first {N D : Nat} (h : N < D) (n : Nat) (P1 P0 : List UInt8 → Bool) : cw n (coinP N D 0 1 P1 P0) = cvo (chi (oneJ N D)) (fun m => cw m P1) n + cvo (chi (zeroJ N D)) (fun m => cw m P0) n := by
  rw [cvo_chi, cvo_chi]
  have o0 : oneJ N D 0 = false := rfl
  rw [o0, if_neg (by simp)]
  by_cases h0 : N = 0
  · subst h0
    have hs : (sdx 0 D 0).2 = false := by simp [sdx]
    have hd : sdB 0 D 0 1 = true := by simp [sdB]
    have hv : sdV 0 D 0 1 = 0 := by simp [sdV]
    rw [cw_congr (n := n) (Q := P0) (fun l _ => coinP_set0 hd hv), show zeroJ 0 D 0 = true from by simp [zeroJ], if_pos rfl, cvF_none n 0 (fun i hi => oneJ_shut hs i hi), cvF_none n 0 (fun i hi => zeroJ_shut hs i hi)]
    omega
  · have hz : zeroJ N D 0 = false := by simp [zeroJ, h0]
    rw [hz, if_neg (by simp), cw_coin n (K := 0) (T := 1) (j := 0) (x := N) ⟨by omega, by omega, h, by simp [sdx, h0]⟩]
    omega
end Go.Proofs.YtgphopkifomffaaGreatDoor
namespace Go.Proofs
open Go.Shelf
def Tryz.lays145_ren : Go.Shelf.Ren := ⟨fun | 145 => 186 | 220 => 225 | 219 => 248 | 217 => 258 | 225 => 257 | 224 => 256 | 267 => 259 | 266 => 260 | 314 => 261 | n => n, fun | 9 => 9 | 4 => 4 | 59 => 217 | 3 => 3 | 5 => 5 | 46 => 107 | 146 => 264 | 51 => 153 | n => n, fun | 1 => 7 | n => n⟩
theorem Tryz.lays145 : Go.Proofs.Lays.n145 Tryz.prog Tryz.lays145_ren := {
  mixed := by kernel_rfl
  f145 := Tryz.func186.trans (congrArg some (by kernel_rfl))
  f217 := Tryz.func258.trans (congrArg some (by kernel_rfl))
  f219 := Tryz.func248.trans (congrArg some (by kernel_rfl))
  f220 := Tryz.func225.trans (congrArg some (by kernel_rfl))
  f224 := Tryz.func256.trans (congrArg some (by kernel_rfl))
  f225 := Tryz.func257.trans (congrArg some (by kernel_rfl))
  f266 := Tryz.func260.trans (congrArg some (by kernel_rfl))
  f267 := Tryz.func259.trans (congrArg some (by kernel_rfl))
  f314 := Tryz.func261.trans (congrArg some (by kernel_rfl))
  t3 := Tryz.underlying3
  a3 := Tryz.isAgg3
  z3 := Tryz.sizeOf3
  v3 := Tryz.zeroValue3
  t4 := Tryz.underlying4
  a4 := Tryz.isAgg4
  z4 := Tryz.sizeOf4
  v4 := Tryz.zeroValue4
  t5 := Tryz.underlying5
  a5 := Tryz.isAgg5
  z5 := Tryz.sizeOf5
  v5 := Tryz.zeroValue5
  t9 := Tryz.underlying9
  a9 := Tryz.isAgg9
  z9 := Tryz.sizeOf9
  v9 := Tryz.zeroValue9
  t46 := Tryz.underlying107
  a46 := Tryz.isAgg107
  z46 := Tryz.sizeOf107
  v46 := Tryz.zeroValue107
  t51 := Tryz.underlying153
  a51 := Tryz.isAgg153
  z51 := Tryz.sizeOf153
  v51 := Tryz.zeroValue153
  t59 := Tryz.underlying217
  a59 := Tryz.isAgg217
  z59 := Tryz.sizeOf217
  v59 := Tryz.zeroValue217
  t146 := Tryz.underlying264
  a146 := Tryz.isAgg264
  z146 := Tryz.sizeOf264
  v146 := Tryz.zeroValue264
  g1 := by kernel_rfl }
theorem Tryz.strings_Cut (s sep : ByteArray) (m : Int) (w : World) (hs : s.size < 4294967281) (hm : w.cell? ⟨7, 0, none⟩ = some (.int .i64 m)) :
    Calls Tryz.prog 186 #[.string s, .string sep] w fun e w' => e = .returned (.tuple #[.string ⟨(Lib.cut s.data.toList sep.data.toList).1.toArray⟩, .string ⟨(Lib.cut s.data.toList sep.data.toList).2.1.toArray⟩, .bool (Lib.cut s.data.toList sep.data.toList).2.2]) ∧ ∃ n, w' = w.drewN n := Any.strings_Cut Tryz.lays145 s sep m w hs hm
end Go.Proofs
namespace Go.Proofs.YtgphopkifomffaaGreatDoor
open Go.RowKit Go.Shelf
set_option linter.unusedVariables false
theorem l_cut (w : World) (s : ByteArray) (hs : s.size ≤ 100000000) (hL : Lay w) :
    Calls Tryz.prog 186 #[.string s, .string ⟨#[47]⟩] w fun e w' => e = .returned (.tuple #[.string (cW s), .string (cB s), .bool (cS s)]) ∧ Below w.heap.size w w' := by
  obtain ⟨m, hm⟩ := hL.max
  refine (Tryz.strings_Cut s ⟨#[47]⟩ m w (by omega) hm).mono ?_
  rintro e w' ⟨rfl, n, rfl⟩
  exact ⟨rfl, below_drewN (Below.refl _ _) n⟩
end Go.Proofs.YtgphopkifomffaaGreatDoor
namespace Go.Proofs.YtgphopkifomffaaGreatDoor
open Go.RowKit Go.Shelf
set_option linter.unusedVariables false
structure Cuts (s W B D : ByteArray) (S M I fb : Bool) : Prop where
  cut : ∀ w, Lay w → Calls Tryz.prog 186 #[.string s, .string ⟨#[47]⟩] w fun e w' => e = .returned (.tuple #[.string W, .string B, .bool S]) ∧ Below w.heap.size w w'
  int : ∀ w, Calls Tryz.prog 148 #[.string W] w fun e w' => e = .returned (.tuple #[.bool M, .string D, .bool I]) ∧ Below w.heap.size w w'
  form : ∀ w, Calls Tryz.prog 187 #[.string B] w fun e w' => e = .returned (.bool fb) ∧ Below w.heap.size w w'
theorem cuts_of (s : ByteArray) (hs : s.size ≤ 1000000) : Cuts s (cW s) (cB s) (iD (cW s)) (cS s) (iM (cW s)) (iB (cW s)) (fB (cB s)) := {
  cut := fun w hL => l_cut w s (by omega) hL
  int := fun w => f_Integer w (cW s) (by have := cW_size s; omega)
  form := fun w => l_form w (cB s) (by have := cB_size s; omega) }
set_option maxRecDepth 100000 in
set_option maxHeartbeats 4000000 in
theorem fp_bad (w : World) (s W B D : ByteArray) (S M I fb : Bool) (HL : Hid (Lay w)) (HC : Cuts s W B D S M I fb)
    (h : (I && (!S || (decide (D ≠ ⟨#[48]⟩) && fb && decide (B ≠ ⟨#[48]⟩) && decide (B ≠ ⟨#[49]⟩)))) = false) :
    Calls Tryz.prog 127 #[.string s] w fun e w' => e = .returned (.tuple #[.agg #[.bool false, .slice none 0 0, .slice none 0 0], .int .i64 3]) ∧ Below w.heap.size w w' := by
  have key : (I = false) ∨ (I = true ∧ S = true ∧ (D = ⟨#[48]⟩ ∨ (¬ D = ⟨#[48]⟩ ∧ (fb = false ∨ (fb = true ∧ (B = ⟨#[48]⟩ ∨ (¬ B = ⟨#[48]⟩ ∧ B = ⟨#[49]⟩))))))) := by
    by_cases h1 : D = ⟨#[48]⟩ <;> by_cases h2 : B = ⟨#[48]⟩ <;> by_cases h3 : B = ⟨#[49]⟩ <;> cases I <;> cases S <;> cases fb <;> simp [h1, h2, h3] at h ⊢
  have HK := hid HC
  clear HC h
  have t0 := hid (Blk.new w #[.bool false, .slice none 0 0, .slice none 0 0] 101)
  have t1 := hid ((Below.refl w.heap.size w).alloc (Nat.le_refl _) (.cells #[.bool false, .slice none 0 0, .slice none 0 0] 101))
  have t2 := hid (HL.out.call t1.out)
  rcases key with rfl | ⟨rfl, rfl, rfl | ⟨h1, rfl | ⟨rfl, rfl | ⟨h2, rfl⟩⟩⟩⟩
  · cases S
    all_goals
      go_enter Tryz.func127, Tryz.ntmps127
      go_wp2_with (first
        | (go_at_call 186; refine (HK.out.cut _ t2.out).mono ?_; rintro e w1 ⟨rfl, hb1⟩
           have x1 := hid (t0.out.call hb1)
           have y1 := hid (bnext t1.out hb1)
           clear hb1)
        | (go_at_call 148; refine (HK.out.int _).mono ?_; rintro e w2 ⟨rfl, hb2⟩
           have x2 := hid (x1.out.call hb2)
           have y2 := hid (bnext y1.out hb2)
           clear hb2
           have d0 := x2.out.cell 0
           have d1 := x2.out.cell 1
           have d2 := x2.out.cell 2
           have e0 := x2.out.free 0
           have e1 := x2.out.free 1
           have e2 := x2.out.free 2
           simp at d0 d1 d2)
        | (go_at_call 187; refine (HK.out.form _).mono ?_; rintro e w3 ⟨rfl, hb3⟩
           have x3 := hid (x2.out.call hb3)
           have y3 := hid (bnext y2.out hb3)
           clear hb3 d0 d1 d2 e0 e1 e2
           have d0 := x3.out.cell 0
           have d1 := x3.out.cell 1
           have d2 := x3.out.cell 2
           have e0 := x3.out.free 0
           have e1 := x3.out.free 1
           have e2 := x3.out.free 2
           simp at d0 d1 d2)
        | fail)
      first
        | (obtain ⟨s1, s2⟩ := set3 x3.out false none none 0 0 0 0
           have f0 := s2.cell 0
           have f1 := s2.cell 1
           have f2 := s2.cell 2
           simp at f0 f1 f2
           refine bodyPost_ret (v := .tuple #[.agg #[.bool false, .slice none 0 0, .slice none 0 0], .int .i64 3]) (by simp [results, Tryz.results127, go_sem, f0, f1, f2]) rfl ⟨rfl, ?_⟩
           exact ((y3.out.setCell (Nat.le_refl _) _).setCell (Nat.le_refl _) _).setCell (Nat.le_refl _) _)
        | (obtain ⟨s1, s2⟩ := set3 x2.out false none none 0 0 0 0
           have f0 := s2.cell 0
           have f1 := s2.cell 1
           have f2 := s2.cell 2
           simp at f0 f1 f2
           refine bodyPost_ret (v := .tuple #[.agg #[.bool false, .slice none 0 0, .slice none 0 0], .int .i64 3]) (by simp [results, Tryz.results127, go_sem, f0, f1, f2]) rfl ⟨rfl, ?_⟩
           exact ((y2.out.setCell (Nat.le_refl _) _).setCell (Nat.le_refl _) _).setCell (Nat.le_refl _) _)
  all_goals (try have i1 := ne_lit (l := [48]) h1)
  all_goals (try have i2 := ne_lit (l := [48]) h2)
  all_goals
    go_enter Tryz.func127, Tryz.ntmps127
    go_wp2_with (first
      | (go_at_call 186; refine (HK.out.cut _ t2.out).mono ?_; rintro e w1 ⟨rfl, hb1⟩
         have x1 := hid (t0.out.call hb1)
         have y1 := hid (bnext t1.out hb1)
         clear hb1)
      | (go_at_call 148; refine (HK.out.int _).mono ?_; rintro e w2 ⟨rfl, hb2⟩
         have x2 := hid (x1.out.call hb2)
         have y2 := hid (bnext y1.out hb2)
         clear hb2
         have d0 := x2.out.cell 0
         have d1 := x2.out.cell 1
         have d2 := x2.out.cell 2
         have e0 := x2.out.free 0
         have e1 := x2.out.free 1
         have e2 := x2.out.free 2
         simp at d0 d1 d2)
      | (go_at_call 187; refine (HK.out.form _).mono ?_; rintro e w3 ⟨rfl, hb3⟩
         have x3 := hid (x2.out.call hb3)
         have y3 := hid (bnext y2.out hb3)
         clear hb3 d0 d1 d2 e0 e1 e2
         have d0 := x3.out.cell 0
         have d1 := x3.out.cell 1
         have d2 := x3.out.cell 2
         have e0 := x3.out.free 0
         have e1 := x3.out.free 1
         have e2 := x3.out.free 2
         simp at d0 d1 d2)
      | fail)
    first
      | (obtain ⟨s1, s2⟩ := set3 x3.out false none none 0 0 0 0
         have f0 := s2.cell 0
         have f1 := s2.cell 1
         have f2 := s2.cell 2
         simp at f0 f1 f2
         refine bodyPost_ret (v := .tuple #[.agg #[.bool false, .slice none 0 0, .slice none 0 0], .int .i64 3]) (by simp [results, Tryz.results127, go_sem, f0, f1, f2]) rfl ⟨rfl, ?_⟩
         exact ((y3.out.setCell (Nat.le_refl _) _).setCell (Nat.le_refl _) _).setCell (Nat.le_refl _) _)
      | (obtain ⟨s1, s2⟩ := set3 x2.out false none none 0 0 0 0
         have f0 := s2.cell 0
         have f1 := s2.cell 1
         have f2 := s2.cell 2
         simp at f0 f1 f2
         refine bodyPost_ret (v := .tuple #[.agg #[.bool false, .slice none 0 0, .slice none 0 0], .int .i64 3]) (by simp [results, Tryz.results127, go_sem, f0, f1, f2]) rfl ⟨rfl, ?_⟩
         exact ((y2.out.setCell (Nat.le_refl _) _).setCell (Nat.le_refl _) _).setCell (Nat.le_refl _) _)
set_option maxRecDepth 100000 in
set_option maxHeartbeats 4000000 in
theorem fp_long (w : World) (s W B D : ByteArray) (S M fb : Bool) (HL : Hid (Lay w)) (HC : Cuts s W B D S M true fb)
    (h : S = false ∨ (S = true ∧ ¬ D = ⟨#[48]⟩ ∧ ¬ B = ⟨#[48]⟩ ∧ ¬ B = ⟨#[49]⟩ ∧ fb = true)) (hl : 4000 < D.size ∨ (¬ 4000 < D.size ∧ S = true ∧ 4000 < B.size)) :
    Calls Tryz.prog 127 #[.string s] w fun e w' => e = .returned (.tuple #[.agg #[.bool false, .slice none 0 0, .slice none 0 0], .int .i64 5]) ∧ Below w.heap.size w w' := by
  have HK := hid HC
  clear HC
  have t0 := hid (Blk.new w #[.bool false, .slice none 0 0, .slice none 0 0] 101)
  have t1 := hid ((Below.refl w.heap.size w).alloc (Nat.le_refl _) (.cells #[.bool false, .slice none 0 0, .slice none 0 0] 101))
  have t2 := hid (HL.out.call t1.out)
  rcases h with rfl | ⟨rfl, h1, h2, h3, rfl⟩
  · have q0 : decide ((4000 : Int) < (D.size : Int)) = true := by
      rcases hl with hl | ⟨_, hl, _⟩
      · simp; omega
      · cases hl
    clear hl
    go_enter Tryz.func127, Tryz.ntmps127
    go_wp2_with (first
      | (go_at_call 186; refine (HK.out.cut _ t2.out).mono ?_; rintro e w1 ⟨rfl, hb1⟩
         have x1 := hid (t0.out.call hb1)
         have y1 := hid (bnext t1.out hb1)
         clear hb1)
      | (go_at_call 148; refine (HK.out.int _).mono ?_; rintro e w2 ⟨rfl, hb2⟩
         have x2 := hid (x1.out.call hb2)
         have y2 := hid (bnext y1.out hb2)
         clear hb2
         have d0 := x2.out.cell 0
         have d1 := x2.out.cell 1
         have d2 := x2.out.cell 2
         have e0 := x2.out.free 0
         have e1 := x2.out.free 1
         have e2 := x2.out.free 2
         simp at d0 d1 d2)
      | (go_at_call 187; refine (HK.out.form _).mono ?_; rintro e w3 ⟨rfl, hb3⟩
         have x3 := hid (x2.out.call hb3)
         have y3 := hid (bnext y2.out hb3)
         clear hb3 d0 d1 d2 e0 e1 e2
         have d0 := x3.out.cell 0
         have d1 := x3.out.cell 1
         have d2 := x3.out.cell 2
         have e0 := x3.out.free 0
         have e1 := x3.out.free 1
         have e2 := x3.out.free 2
         simp at d0 d1 d2)
      | fail)
    first
      | (obtain ⟨s1, s2⟩ := set3 x3.out false none none 0 0 0 0
         have f0 := s2.cell 0
         have f1 := s2.cell 1
         have f2 := s2.cell 2
         simp at f0 f1 f2
         refine bodyPost_ret (v := .tuple #[.agg #[.bool false, .slice none 0 0, .slice none 0 0], .int .i64 5]) (by simp [results, Tryz.results127, go_sem, f0, f1, f2]) rfl ⟨rfl, ?_⟩
         exact ((y3.out.setCell (Nat.le_refl _) _).setCell (Nat.le_refl _) _).setCell (Nat.le_refl _) _)
      | (obtain ⟨s1, s2⟩ := set3 x2.out false none none 0 0 0 0
         have f0 := s2.cell 0
         have f1 := s2.cell 1
         have f2 := s2.cell 2
         simp at f0 f1 f2
         refine bodyPost_ret (v := .tuple #[.agg #[.bool false, .slice none 0 0, .slice none 0 0], .int .i64 5]) (by simp [results, Tryz.results127, go_sem, f0, f1, f2]) rfl ⟨rfl, ?_⟩
         exact ((y2.out.setCell (Nat.le_refl _) _).setCell (Nat.le_refl _) _).setCell (Nat.le_refl _) _)
  · have i1 := ne_lit (l := [48]) h1
    have i2 := ne_lit (l := [48]) h2
    have i3 := ne_lit (l := [49]) h3
    rcases hl with hl | ⟨hl, -, hl2⟩
    · have q0 : decide ((4000 : Int) < (D.size : Int)) = true := by simp; omega
      clear hl
      go_enter Tryz.func127, Tryz.ntmps127
      go_wp2_with (first
        | (go_at_call 186; refine (HK.out.cut _ t2.out).mono ?_; rintro e w1 ⟨rfl, hb1⟩
           have x1 := hid (t0.out.call hb1)
           have y1 := hid (bnext t1.out hb1)
           clear hb1)
        | (go_at_call 148; refine (HK.out.int _).mono ?_; rintro e w2 ⟨rfl, hb2⟩
           have x2 := hid (x1.out.call hb2)
           have y2 := hid (bnext y1.out hb2)
           clear hb2
           have d0 := x2.out.cell 0
           have d1 := x2.out.cell 1
           have d2 := x2.out.cell 2
           have e0 := x2.out.free 0
           have e1 := x2.out.free 1
           have e2 := x2.out.free 2
           simp at d0 d1 d2)
        | (go_at_call 187; refine (HK.out.form _).mono ?_; rintro e w3 ⟨rfl, hb3⟩
           have x3 := hid (x2.out.call hb3)
           have y3 := hid (bnext y2.out hb3)
           clear hb3 d0 d1 d2 e0 e1 e2
           have d0 := x3.out.cell 0
           have d1 := x3.out.cell 1
           have d2 := x3.out.cell 2
           have e0 := x3.out.free 0
           have e1 := x3.out.free 1
           have e2 := x3.out.free 2
           simp at d0 d1 d2)
        | fail)
      first
        | (obtain ⟨s1, s2⟩ := set3 x3.out false none none 0 0 0 0
           have f0 := s2.cell 0
           have f1 := s2.cell 1
           have f2 := s2.cell 2
           simp at f0 f1 f2
           refine bodyPost_ret (v := .tuple #[.agg #[.bool false, .slice none 0 0, .slice none 0 0], .int .i64 5]) (by simp [results, Tryz.results127, go_sem, f0, f1, f2]) rfl ⟨rfl, ?_⟩
           exact ((y3.out.setCell (Nat.le_refl _) _).setCell (Nat.le_refl _) _).setCell (Nat.le_refl _) _)
        | (obtain ⟨s1, s2⟩ := set3 x2.out false none none 0 0 0 0
           have f0 := s2.cell 0
           have f1 := s2.cell 1
           have f2 := s2.cell 2
           simp at f0 f1 f2
           refine bodyPost_ret (v := .tuple #[.agg #[.bool false, .slice none 0 0, .slice none 0 0], .int .i64 5]) (by simp [results, Tryz.results127, go_sem, f0, f1, f2]) rfl ⟨rfl, ?_⟩
           exact ((y2.out.setCell (Nat.le_refl _) _).setCell (Nat.le_refl _) _).setCell (Nat.le_refl _) _)
    · have q0 : decide ((4000 : Int) < (D.size : Int)) = false := by simp; omega
      have q1 : decide ((4000 : Int) < (B.size : Int)) = true := by simp; omega
      clear hl hl2
      go_enter Tryz.func127, Tryz.ntmps127
      go_wp2_with (first
        | (go_at_call 186; refine (HK.out.cut _ t2.out).mono ?_; rintro e w1 ⟨rfl, hb1⟩
           have x1 := hid (t0.out.call hb1)
           have y1 := hid (bnext t1.out hb1)
           clear hb1)
        | (go_at_call 148; refine (HK.out.int _).mono ?_; rintro e w2 ⟨rfl, hb2⟩
           have x2 := hid (x1.out.call hb2)
           have y2 := hid (bnext y1.out hb2)
           clear hb2
           have d0 := x2.out.cell 0
           have d1 := x2.out.cell 1
           have d2 := x2.out.cell 2
           have e0 := x2.out.free 0
           have e1 := x2.out.free 1
           have e2 := x2.out.free 2
           simp at d0 d1 d2)
        | (go_at_call 187; refine (HK.out.form _).mono ?_; rintro e w3 ⟨rfl, hb3⟩
           have x3 := hid (x2.out.call hb3)
           have y3 := hid (bnext y2.out hb3)
           clear hb3 d0 d1 d2 e0 e1 e2
           have d0 := x3.out.cell 0
           have d1 := x3.out.cell 1
           have d2 := x3.out.cell 2
           have e0 := x3.out.free 0
           have e1 := x3.out.free 1
           have e2 := x3.out.free 2
           simp at d0 d1 d2)
        | fail)
      first
        | (obtain ⟨s1, s2⟩ := set3 x3.out false none none 0 0 0 0
           have f0 := s2.cell 0
           have f1 := s2.cell 1
           have f2 := s2.cell 2
           simp at f0 f1 f2
           refine bodyPost_ret (v := .tuple #[.agg #[.bool false, .slice none 0 0, .slice none 0 0], .int .i64 5]) (by simp [results, Tryz.results127, go_sem, f0, f1, f2]) rfl ⟨rfl, ?_⟩
           exact ((y3.out.setCell (Nat.le_refl _) _).setCell (Nat.le_refl _) _).setCell (Nat.le_refl _) _)
        | (obtain ⟨s1, s2⟩ := set3 x2.out false none none 0 0 0 0
           have f0 := s2.cell 0
           have f1 := s2.cell 1
           have f2 := s2.cell 2
           simp at f0 f1 f2
           refine bodyPost_ret (v := .tuple #[.agg #[.bool false, .slice none 0 0, .slice none 0 0], .int .i64 5]) (by simp [results, Tryz.results127, go_sem, f0, f1, f2]) rfl ⟨rfl, ?_⟩
           exact ((y2.out.setCell (Nat.le_refl _) _).setCell (Nat.le_refl _) _).setCell (Nat.le_refl _) _)
end Go.Proofs.YtgphopkifomffaaGreatDoor
namespace Go.Proofs.YtgphopkifomffaaGreatDoor
open Go.RowKit Go.Shelf
theorem bN_limbs {s : ByteArray} (h : allDig s.data.toList) (hs : ¬ 4000 < s.size) : (limbs (bN s)).length ≤ 1000000 := by
  refine dv_limbs h ?_
  have : s.data.toList.length = s.size := Array.length_toList
  omega
theorem qD_false {s : ByteArray} (h : cS s = false) : qD s = ⟨#[49]⟩ := by simp [qD, h]
theorem qD_true {s : ByteArray} (h : cS s = true) : qD s = cB s := by simp [qD, h]
end Go.Proofs.YtgphopkifomffaaGreatDoor
namespace Go.Proofs.YtgphopkifomffaaGreatDoor
open Go.RowKit Go.Shelf
set_option linter.unusedVariables false
def IsF (w : World) (v : Value) (m : Bool) (n d : Nat) : Prop := ∃ N D, v = .agg #[.bool m, N, D] ∧ IsN .u64 w N n ∧ IsN .u64 w D d
def RetF (x : Int) (m : Bool) (n d : Nat) (e : Ending) (w' : World) : Prop := ∃ v, e = .returned (.tuple #[v, .int .i64 x]) ∧ (x = 0 → IsF w' v m n d) ∧ (x ≠ 0 → v = .agg #[.bool false, .slice none 0 0, .slice none 0 0])
theorem RetF.err {x : Int} {m : Bool} {n d : Nat} {w' : World} (h : x ≠ 0) : RetF x m n d (.returned (.tuple #[.agg #[.bool false, .slice none 0 0, .slice none 0 0], .int .i64 x])) w' := ⟨_, rfl, fun e => absurd e h, fun _ => rfl⟩
set_option maxRecDepth 100000 in
set_option maxHeartbeats 400000 in
theorem fp_frac (w : World) (s W B D : ByteArray) (M : Bool) (HL : Hid (Lay w)) (HC : Cuts s W B D true M true true)
    (h1 : ¬ D = ⟨#[48]⟩) (h2 : ¬ B = ⟨#[48]⟩) (h3 : ¬ B = ⟨#[49]⟩) (hl1 : ¬ 4000 < D.size) (hl2 : ¬ 4000 < B.size) (hd1 : allDig D.data.toList) (hd2 : allDig B.data.toList) :
    Calls Tryz.prog 127 #[.string s] w fun e w' => RetF (if Nat.gcd (bN D) (bN B) = 1 then 0 else 3) M (bN D) (bN B) e w' ∧ Below w.heap.size w w' := by
  obtain ⟨xc, hxc⟩ : ∃ x : Int, (if Nat.gcd (bN D) (bN B) = 1 then 0 else 3) = x := ⟨_, rfl⟩
  rw [hxc]
  have HXC := hid hxc
  clear hxc
  have HK := hid HC
  clear HC
  have t0 := hid (Blk.new w #[.bool false, .slice none 0 0, .slice none 0 0] 101)
  have t1 := hid ((Below.refl w.heap.size w).alloc (Nat.le_refl _) (.cells #[.bool false, .slice none 0 0, .slice none 0 0] 101))
  have t2 := hid (HL.out.call t1.out)
  have i1 := ne_lit (l := [48]) h1
  have i2 := ne_lit (l := [48]) h2
  have i3 := ne_lit (l := [49]) h3
  have q0 : decide ((4000 : Int) < (D.size : Int)) = false := by simp; omega
  have q1 : decide ((4000 : Int) < (B.size : Int)) = false := by simp; omega
  have L1 := hid (bN_limbs hd1 hl1)
  have L2 := hid (bN_limbs hd2 hl2)
  have P1 := fun W => hid (l_Parse W D hd1 (by omega))
  have P2 := fun W => hid (l_Parse W B hd2 (by omega))
  clear hd1 hd2 h1 h2 h3 hl1 hl2
  go_enter Tryz.func127, Tryz.ntmps127
  go_wp2_with (first
    | (go_at_call 186; refine (HK.out.cut _ t2.out).mono ?_; rintro e w1 ⟨rfl, hb1⟩
       have x1 := hid (t0.out.call hb1)
       have y1 := hid (bnext t1.out hb1)
       clear hb1)
    | (go_at_call 148; refine (HK.out.int _).mono ?_; rintro e w2 ⟨rfl, hb2⟩
       have x2 := hid (x1.out.call hb2)
       have y2 := hid (bnext y1.out hb2)
       clear hb2)
    | (go_at_call 187; refine (HK.out.form _).mono ?_; rintro e w3 ⟨rfl, hb3⟩
       have x3 := hid (x2.out.call hb3)
       have y3 := hid (bnext y2.out hb3)
       clear hb3)
    | fail)
  refine (P1 _).out.mono ?_; rintro e w4 ⟨⟨v4, rfl, hv4⟩, hb4⟩
  have x4 := hid (x3.out.call hb4)
  have y4 := hid (bnext y3.out hb4)
  have N4 := hid hv4
  clear hb4 hv4
  obtain ⟨a4, c4, rfl, _⟩ := N4.out.openI
  obtain ⟨k1, hk1⟩ : ∃ k, (limbs (dv D.data.toList)).length = k := ⟨_, rfl⟩
  rw [hk1] at N4 ⊢
  clear P1
  go_wp2_with fail
  refine (P2 _).out.mono ?_; rintro e w5 ⟨⟨v5, rfl, hv5⟩, hb5⟩
  have x5 := hid (x4.out.call hb5)
  have y5 := hid (bnext y4.out hb5)
  have N5 := hid (N4.out.call hb5)
  have D5 := hid hv5
  clear hb5 hv5
  obtain ⟨a5, c5, rfl, _⟩ := D5.out.openI
  obtain ⟨k2, hk2⟩ : ∃ k, (limbs (dv B.data.toList)).length = k := ⟨_, rfl⟩
  rw [hk2] at D5 ⊢
  clear P2
  go_wp2_with fail
  have z5 := hid (Blk.new w5 #[.bool M, .slice a4 k1 c4, .slice a5 k2 c5] 101)
  have b5 := hid ((Below.refl w5.heap.size w5).alloc (Nat.le_refl _) (.cells #[.bool M, .slice a4 k1 c4, .slice a5 k2 c5] 101))
  refine (l_Gcd _ _ _ _ _ (N5.out.call b5.out) (D5.out.call b5.out) L1.out L2.out).mono ?_
  rintro e w6 ⟨⟨v6, rfl, hv6⟩, hb6⟩
  have z6 := hid (z5.out.call hb6)
  have x6 := hid ((x5.out.call b5.out).call hb6)
  have y6 := hid (bnext (bnext y5.out b5.out) hb6)
  have N6 := hid ((N5.out.call b5.out).call hb6)
  have D6 := hid ((D5.out.call b5.out).call hb6)
  have G6 := hid hv6
  clear hb6 hv6
  obtain ⟨a6, c6, rfl, _⟩ := G6.out.openI
  go_wp2_with fail
  refine (l_One _ _ _ G6.out).mono ?_
  rintro e w7 ⟨rfl, rfl⟩
  by_cases hG : Nat.gcd (bN D) (bN B) = 1
  · have hO : isO (Nat.gcd (dv D.data.toList) (dv B.data.toList)) = true := isO_iff.2 hG
    have X0 := hid (show xc = 0 from by rw [← HXC.out, if_pos hG])
    rw [hO]
    have d0 := x6.out.cell 0
    have d1 := x6.out.cell 1
    have d2 := x6.out.cell 2
    have e0 := x6.out.free 0
    have e1 := x6.out.free 1
    have e2 := x6.out.free 2
    have g0 := z6.out.cell 0
    have g1 := z6.out.cell 1
    have g2 := z6.out.cell 2
    simp at d0 d1 d2 g0 g1 g2
    clear hO
    have HG := hid hG
    clear hG
    go_wp2_with fail
    obtain ⟨s1, s2⟩ := set3 x6.out M a4 a5 k1 c4 k2 c5
    have f0 := s2.cell 0
    have f1 := s2.cell 1
    have f2 := s2.cell 2
    simp at f0 f1 f2
    refine bodyPost_ret (v := .tuple #[.agg #[.bool M, .slice a4 k1 c4, .slice a5 k2 c5], .int .i64 0]) (by simp [results, Tryz.results127, go_sem, f0, f1, f2]) rfl ⟨by rw [X0.out]; exact ⟨_, rfl, fun _ => ⟨_, _, rfl, s1 _ _ _ N6.out, s1 _ _ _ D6.out⟩, fun h => absurd rfl h⟩, ?_⟩
    exact ((y6.out.setCell (Nat.le_refl _) _).setCell (Nat.le_refl _) _).setCell (Nat.le_refl _) _
  · have hO : isO (Nat.gcd (dv D.data.toList) (dv B.data.toList)) = false := by
      rw [Bool.eq_false_iff]
      exact fun h => hG (isO_iff.1 h)
    have X0 := hid (show xc = 3 from by rw [← HXC.out, if_neg hG])
    rw [hO]
    have d0 := x6.out.cell 0
    have d1 := x6.out.cell 1
    have d2 := x6.out.cell 2
    have e0 := x6.out.free 0
    have e1 := x6.out.free 1
    have e2 := x6.out.free 2
    simp at d0 d1 d2
    clear hO
    have HG := hid hG
    clear hG
    go_wp2_with fail
    obtain ⟨s1, s2⟩ := set3 x6.out false none none 0 0 0 0
    have f0 := s2.cell 0
    have f1 := s2.cell 1
    have f2 := s2.cell 2
    simp at f0 f1 f2
    refine bodyPost_ret (v := .tuple #[.agg #[.bool false, .slice none 0 0, .slice none 0 0], .int .i64 3]) (by simp [results, Tryz.results127, go_sem, f0, f1, f2]) rfl ⟨by rw [X0.out]; exact RetF.err (by decide), ?_⟩
    exact ((y6.out.setCell (Nat.le_refl _) _).setCell (Nat.le_refl _) _).setCell (Nat.le_refl _) _
end Go.Proofs.YtgphopkifomffaaGreatDoor
namespace Go.Proofs.YtgphopkifomffaaGreatDoor
open Go.RowKit Go.Shelf
set_option linter.unusedVariables false
set_option maxRecDepth 100000 in
set_option maxHeartbeats 4000000 in
theorem fp_int (w : World) (s W B D : ByteArray) (M fb : Bool) (HL : Hid (Lay w)) (HC : Cuts s W B D false M true fb)
    (hl1 : ¬ 4000 < D.size) (hd1 : allDig D.data.toList) :
    Calls Tryz.prog 127 #[.string s] w fun e w' => RetF 0 M (bN D) 1 e w' ∧ Below w.heap.size w w' := by
  have HK := hid HC
  clear HC
  have t0 := hid (Blk.new w #[.bool false, .slice none 0 0, .slice none 0 0] 101)
  have t1 := hid ((Below.refl w.heap.size w).alloc (Nat.le_refl _) (.cells #[.bool false, .slice none 0 0, .slice none 0 0] 101))
  have t2 := hid (HL.out.call t1.out)
  have q0 : decide ((4000 : Int) < (D.size : Int)) = false := by simp; omega
  have P1 := fun W => hid (l_Parse W D hd1 (by omega))
  have P2 := fun W => hid (l_Parse W ⟨#[49]⟩ (by intro b hb; simp at hb; subst hb; rfl) (Nat.succ_le_succ (Nat.zero_le _)))
  clear hd1 hl1
  go_enter Tryz.func127, Tryz.ntmps127
  go_wp2_with (first
    | (go_at_call 186; refine (HK.out.cut _ t2.out).mono ?_; rintro e w1 ⟨rfl, hb1⟩
       have x1 := hid (t0.out.call hb1)
       have y1 := hid (bnext t1.out hb1)
       clear hb1)
    | (go_at_call 148; refine (HK.out.int _).mono ?_; rintro e w2 ⟨rfl, hb2⟩
       have x2 := hid (x1.out.call hb2)
       have y2 := hid (bnext y1.out hb2)
       clear hb2)
    | fail)
  refine (P1 _).out.mono ?_; rintro e w4 ⟨⟨v4, rfl, hv4⟩, hb4⟩
  have x4 := hid (x2.out.call hb4)
  have y4 := hid (bnext y2.out hb4)
  have N4 := hid hv4
  clear hb4 hv4
  obtain ⟨a4, c4, rfl, _⟩ := N4.out.openI
  obtain ⟨k1, hk1⟩ : ∃ k, (limbs (dv D.data.toList)).length = k := ⟨_, rfl⟩
  rw [hk1] at N4 ⊢
  clear P1
  go_wp2_with fail
  refine (P2 _).out.mono ?_; rintro e w5 ⟨⟨v5, rfl, hv5⟩, hb5⟩
  have x5 := hid (x4.out.call hb5)
  have y5 := hid (bnext y4.out hb5)
  have N5 := hid (N4.out.call hb5)
  have D5 := hid (show IsN .u64 w5 v5 1 from hv5)
  clear hb5 hv5
  obtain ⟨a5, c5, rfl, _⟩ := D5.out.openI
  obtain ⟨k2, hk2⟩ : ∃ k, (limbs 1).length = k := ⟨_, rfl⟩
  rw [hk2] at D5 ⊢
  clear P2
  have z6 := hid (Blk.new w5 #[.bool M, .slice a4 k1 c4, .slice a5 k2 c5] 101)
  have b5 := hid ((Below.refl w5.heap.size w5).alloc (Nat.le_refl _) (.cells #[.bool M, .slice a4 k1 c4, .slice a5 k2 c5] 101))
  have x6 := hid (x5.out.call b5.out)
  have y6 := hid (bnext y5.out b5.out)
  have N6 := hid (N5.out.call b5.out)
  have D6 := hid (D5.out.call b5.out)
  have d0 := x6.out.cell 0
  have d1 := x6.out.cell 1
  have d2 := x6.out.cell 2
  have e0 := x6.out.free 0
  have e1 := x6.out.free 1
  have e2 := x6.out.free 2
  have g0 := z6.out.cell 0
  have g1 := z6.out.cell 1
  have g2 := z6.out.cell 2
  simp at d0 d1 d2 g0 g1 g2
  go_wp2_with fail
  obtain ⟨s1, s2⟩ := set3 x6.out M a4 a5 k1 c4 k2 c5
  have f0 := s2.cell 0
  have f1 := s2.cell 1
  have f2 := s2.cell 2
  simp at f0 f1 f2
  refine bodyPost_ret (v := .tuple #[.agg #[.bool M, .slice a4 k1 c4, .slice a5 k2 c5], .int .i64 0]) (by simp [results, Tryz.results127, go_sem, f0, f1, f2]) rfl ⟨⟨_, rfl, fun _ => ⟨_, _, rfl, s1 _ _ _ N6.out, s1 _ _ _ D6.out⟩, fun h => absurd rfl h⟩, ?_⟩
  exact ((y6.out.setCell (Nat.le_refl _) _).setCell (Nat.le_refl _) _).setCell (Nat.le_refl _) _
theorem f_Parse (w : World) (s : ByteArray) (hs : s.size ≤ 1000000) (hL : Lay w) :
    Calls Tryz.prog 127 #[.string s] w fun e w' => RetF (qE s) (iM (cW s)) (bN (iD (cW s))) (bN (qD s)) e w' ∧ Below w.heap.size w w' := by
  have HC := cuts_of s hs
  have HL := hid hL
  by_cases hq : qB s = true
  · have hi := qB_whole hq
    rw [hi] at HC
    have hdD := fB_dig (iB_form hi)
    have hcS : cS s = false ∨ (cS s = true ∧ ¬ iD (cW s) = ⟨#[48]⟩ ∧ ¬ cB s = ⟨#[48]⟩ ∧ ¬ cB s = ⟨#[49]⟩ ∧ fB (cB s) = true) := by
      have hq' := hq
      unfold qB at hq'
      simp only [Bool.and_eq_true, Bool.or_eq_true, Bool.not_eq_true', decide_eq_true_eq] at hq'
      rcases hq'.2 with h | h
      · exact .inl h
      · cases hc : cS s
        · exact .inl rfl
        · exact .inr ⟨rfl, h.1.1.1, h.1.2, h.2, h.1.1.2⟩
    by_cases hl : qL s = true
    · have e : qE s = 5 := by simp [qE, hq, hl]
      rw [e]
      unfold qL at hl
      simp only [Bool.or_eq_true, decide_eq_true_eq] at hl
      refine (fp_long w s _ _ _ _ _ _ HL HC hcS ?_).mono ?_
      · by_cases h4 : 4000 < (iD (cW s)).size
        · exact .inl h4
        · refine .inr ⟨h4, ?_⟩
          rcases hcS with hc | ⟨hc, -⟩
          · rw [qD_false hc] at hl
            exact absurd (hl.resolve_left h4) (by decide)
          · rw [qD_true hc] at hl
            exact ⟨hc, hl.resolve_left h4⟩
      · rintro e w' ⟨rfl, hb⟩
        exact ⟨RetF.err (by decide), hb⟩
    · have hl' : qL s = false := by simpa using hl
      have hl1 : ¬ 4000 < (iD (cW s)).size ∧ ¬ 4000 < (qD s).size := by
        unfold qL at hl'
        simpa using hl'
      rcases hcS with hc | ⟨hc, h1, h2, h3, h4⟩
      · rw [hc] at HC
        have e : qE s = 0 := by simp [qE, hq, hl', qG, hc]
        rw [e, qD_false hc]
        exact fp_int w s _ _ _ _ _ HL HC hl1.1 hdD
      · rw [hc, h4] at HC
        have hl2 := hl1.2
        rw [qD_true hc] at hl2
        have e : qE s = if Nat.gcd (bN (iD (cW s))) (bN (cB s)) = 1 then 0 else 3 := by
          simp only [qE, hq, hl', qG, hc, qD_true hc]
          by_cases hg : Nat.gcd (bN (iD (cW s))) (bN (cB s)) = 1 <;> simp [hg]
        rw [e, qD_true hc]
        exact fp_frac w s _ _ _ _ HL HC h1 h2 h3 hl1.1 hl2 hdD (fB_dig h4)
  · have hq' : qB s = false := by simpa using hq
    have e : qE s = 3 := by simp [qE, hq']
    rw [e]
    refine (fp_bad w s _ _ _ _ _ _ _ HL HC hq').mono ?_
    rintro e w' ⟨rfl, hb⟩
    exact ⟨RetF.err (by decide), hb⟩
end Go.Proofs.YtgphopkifomffaaGreatDoor
namespace Go.Proofs.YtgphopkifomffaaGreatDoor
open Go.RowKit Go.Shelf
set_option linter.unusedVariables false
theorem RetF.parts {x : Int} {m : Bool} {n d : Nat} {e : Ending} {w' : World} (h : RetF x m n d e w') : ∃ (b : Bool) (a1 a2 : Option Addr) (n1 c1 n2 c2 : Nat), e = .returned (.tuple #[.agg #[.bool b, .slice a1 n1 c1, .slice a2 n2 c2], .int .i64 x]) := by
  obtain ⟨v, rfl, h1, h2⟩ := h
  by_cases hx : x = 0
  · obtain ⟨N, D, rfl, hN, hD⟩ := h1 hx
    obtain ⟨a1, c1, rfl, _⟩ := hN.openI
    obtain ⟨a2, c2, rfl, _⟩ := hD.openI
    exact ⟨_, _, _, _, _, _, _, rfl⟩
  · rw [h2 hx]
    exact ⟨_, _, _, _, _, _, _, rfl⟩
set_option maxRecDepth 100000 in
set_option maxHeartbeats 1000000 in
theorem q_Check (w : World) (s : ByteArray) (hs : s.size ≤ 1000000) (hL : Lay w) :
    Calls Tryz.prog 200 #[.string s] w fun e w' => e = .returned (.int .i64 (qE s)) ∧ Below w.heap.size w w' := by
  have HC := hid (f_Parse w s hs hL)
  go_enter Tryz.func200, Tryz.ntmps200
  go_wp2_with fail
  refine HC.out.mono ?_
  rintro e w1 ⟨hr, hb⟩
  obtain ⟨b, a1, a2, n1, c1, n2, c2, rfl⟩ := hr.parts
  have HB := hid hb
  clear hr hb
  go_wp2_with fail
  go_ret
  exact ⟨rfl, HB.out.alloc HB.out.size _⟩
def pW (s : ByteArray) : ByteArray := if qE s = 0 then cW s else ⟨#[]⟩
def pD (s : ByteArray) : ByteArray := if qE s = 0 then qD s else ⟨#[]⟩
set_option maxRecDepth 100000 in
set_option maxHeartbeats 1000000 in
theorem q_Parts (w : World) (s : ByteArray) (hs : s.size ≤ 1000000) (hL : Lay w) :
    Calls Tryz.prog 142 #[.string s] w fun e w' => e = .returned (.tuple #[.string (pW s), .string (pD s), .int .i64 (qE s)]) ∧ Below w.heap.size w w' := by
  have HC := hid (q_Check w s hs hL)
  have HU := hid (cuts_of s hs)
  have HL := hid hL
  clear hL
  by_cases he : qE s = 0
  · have e1 : pW s = cW s := if_pos he
    have e2 : pD s = qD s := if_pos he
    rw [e1, e2, he]
    rw [he] at HC
    clear e1 e2
    obtain ⟨W, hW⟩ : ∃ W, cW s = W := ⟨_, rfl⟩
    obtain ⟨B, hB⟩ : ∃ B, cB s = B := ⟨_, rfl⟩
    rw [hW, hB] at HU
    rw [hW]
    cases hc : cS s
    · rw [qD_false hc]
      rw [hc] at HU
      clear hW hB hc he
      go_enter Tryz.func142, Tryz.ntmps142
      go_wp2_with (first
        | (go_at_call 200; refine HC.out.mono ?_; rintro e w1 ⟨rfl, hb1⟩
           have y1 := hid hb1; clear hb1)
        | (go_at_call 186; refine (HU.out.cut _ (HL.out.call y1.out)).mono ?_; rintro e w2 ⟨rfl, hb2⟩
           have y2 := hid (bnext y1.out hb2); clear hb2)
        | fail)
      go_ret3
      exact ⟨rfl, y2.out⟩
    · rw [qD_true hc, hB]
      rw [hc] at HU
      clear hW hB hc he
      go_enter Tryz.func142, Tryz.ntmps142
      go_wp2_with (first
        | (go_at_call 200; refine HC.out.mono ?_; rintro e w1 ⟨rfl, hb1⟩
           have y1 := hid hb1; clear hb1)
        | (go_at_call 186; refine (HU.out.cut _ (HL.out.call y1.out)).mono ?_; rintro e w2 ⟨rfl, hb2⟩
           have y2 := hid (bnext y1.out hb2); clear hb2)
        | fail)
      go_ret3
      exact ⟨rfl, y2.out⟩
  · have e1 : pW s = ⟨#[]⟩ := if_neg he
    have e2 : pD s = ⟨#[]⟩ := if_neg he
    rw [e1, e2]
    have q0 : (qE s != 0) = true := by simpa using he
    obtain ⟨x, hx⟩ : ∃ x, qE s = x := ⟨_, rfl⟩
    rw [hx] at HC q0 ⊢
    clear hx he e1 e2
    have q1 : (x == 0) = false := by simpa using q0
    have q2 : ¬ x = 0 := by simpa using q0
    go_enter Tryz.func142, Tryz.ntmps142
    go_wp2_with (first
      | (go_at_call 200; refine HC.out.mono ?_; rintro e w1 ⟨rfl, hb1⟩
         have y1 := hid hb1; clear hb1)
      | fail)
    go_ret3
    exact ⟨rfl, y1.out⟩
end Go.Proofs.YtgphopkifomffaaGreatDoor
namespace Go.Proofs.YtgphopkifomffaaGreatDoor
open Go.RowKit Go.Shelf
open Go.Lib (decDigits nDigits)
set_option linter.unusedVariables false
set_option maxRecDepth 100000 in
set_option maxHeartbeats 1000000 in
theorem c_checked (w : World) (s : ByteArray) (hs : s.size ≤ 100000000) :
    Calls Tryz.prog 227 #[.string s] w fun e w' => e = .returned (.int .i64 (chkE s)) ∧ Below w.heap.size w w' := by
  have HC := hid (b_Check w s hs)
  by_cases hb : bitB s = true
  · have e0 : bitE s = 0 := if_pos hb
    rw [e0] at HC
    by_cases hl : 256 < s.size
    · have e1 : chkE s = 4 := by rw [chkE, if_pos hb, if_pos hl]
      have q0 : decide ((256 : Int) < (s.size : Int)) = true := by simp; omega
      rw [e1]
      clear hb hl e0 e1
      go_enter Tryz.func227, Tryz.ntmps227
      go_wp2_with fail
      refine HC.out.mono ?_; rintro e w1 ⟨rfl, hb1⟩
      go_wp2_with fail
      go_ret
      exact ⟨rfl, hb1⟩
    · have e1 : chkE s = 0 := by rw [chkE, if_pos hb, if_neg hl]
      have q0 : decide ((256 : Int) < (s.size : Int)) = false := by simp; omega
      rw [e1]
      clear hb hl e0 e1
      go_enter Tryz.func227, Tryz.ntmps227
      go_wp2_with fail
      refine HC.out.mono ?_; rintro e w1 ⟨rfl, hb1⟩
      go_wp2_with fail
      go_ret
      exact ⟨rfl, hb1⟩
  · have e0 : bitE s = 3 := if_neg hb
    have e1 : chkE s = 3 := if_neg hb
    rw [e0] at HC
    rw [e1]
    clear hb e0 e1
    go_enter Tryz.func227, Tryz.ntmps227
    go_wp2_with fail
    refine HC.out.mono ?_; rintro e w1 ⟨rfl, hb1⟩
    go_wp2_with fail
    go_ret
    exact ⟨rfl, hb1⟩
set_option maxRecDepth 100000 in
set_option maxHeartbeats 1000000 in
theorem c_plus (w : World) (s t : ByteArray) (hs : s.size ≤ 1000000) (ht : t.size ≤ 1000000) (hL : Lay w) :
    Calls Tryz.prog 251 #[.string s, .string t] w fun e w' => e = .returned (.string (natB (· + ·) s t)) ∧ Below w.heap.size w w' := by
  have P := hid (n_Add w s t hs ht hL)
  go_enter Tryz.func251, Tryz.ntmps251
  go_wp2_with fail
  refine P.out.mono ?_; rintro e w1 ⟨rfl, hb1⟩
  go_wp2_with fail
  go_ret
  exact ⟨rfl, hb1⟩
set_option maxRecDepth 100000 in
set_option maxHeartbeats 1000000 in
theorem c_times (w : World) (s t : ByteArray) (hs : s.size ≤ 1000000) (ht : t.size ≤ 1000000) (hL : Lay w) :
    Calls Tryz.prog 250 #[.string s, .string t] w fun e w' => e = .returned (.string (natB (· * ·) s t)) ∧ Below w.heap.size w w' := by
  have P := hid (n_Mul w s t hs ht hL)
  go_enter Tryz.func250, Tryz.ntmps250
  go_wp2_with fail
  refine P.out.mono ?_; rintro e w1 ⟨rfl, hb1⟩
  go_wp2_with fail
  go_ret
  exact ⟨rfl, hb1⟩
set_option maxRecDepth 100000 in
set_option maxHeartbeats 1000000 in
theorem g_plus (w : World) (s t : ByteArray) (hs : s.size ≤ 1000000) (ht : t.size ≤ 1000000) (hL : Lay w) :
    Calls Tryz.prog 139 #[.string s, .string t] w fun e w' => e = .returned (.string (natB (· + ·) s t)) ∧ Below w.heap.size w w' := by
  have P := hid (n_Add w s t hs ht hL)
  go_enter Tryz.func139, Tryz.ntmps139
  go_wp2_with fail
  refine P.out.mono ?_; rintro e w1 ⟨rfl, hb1⟩
  go_wp2_with fail
  go_ret
  exact ⟨rfl, hb1⟩
set_option maxRecDepth 100000 in
set_option maxHeartbeats 1000000 in
theorem g_times (w : World) (s t : ByteArray) (hs : s.size ≤ 1000000) (ht : t.size ≤ 1000000) (hL : Lay w) :
    Calls Tryz.prog 140 #[.string s, .string t] w fun e w' => e = .returned (.string (natB (· * ·) s t)) ∧ Below w.heap.size w w' := by
  have P := hid (n_Mul w s t hs ht hL)
  go_enter Tryz.func140, Tryz.ntmps140
  go_wp2_with fail
  refine P.out.mono ?_; rintro e w1 ⟨rfl, hb1⟩
  go_wp2_with fail
  go_ret
  exact ⟨rfl, hb1⟩
end Go.Proofs.YtgphopkifomffaaGreatDoor
namespace Go.Proofs.YtgphopkifomffaaGreatDoor
open Go.RowKit Go.Shelf
open Go.Lib (decDigits nDigits)
set_option linter.unusedVariables false
theorem qE_head {s W : ByteArray} (h : qE s = 0) (hW : cW s = W) : ∃ h0 : 0 < W.size, ((W[0].toNat : Int) == 45) = iM W := by
  subst hW
  have h1 := (qE_zero h).1
  have h2 := fB_dig (iB_form (qB_whole h1))
  have h3 := (formB_iff.1 (iB_form (qB_whole h1))).1
  obtain ⟨l, hl⟩ : ∃ l, (cW s).data.toList = l := ⟨_, rfl⟩
  have e : cW s = ⟨⟨l⟩⟩ := by
    apply ByteArray.ext
    rw [← hl]
  rw [e] at h2 h3 ⊢
  cases l with
  | nil => exact absurd rfl h3
  | cons b r =>
    refine ⟨Nat.succ_pos _, ?_⟩
    have e2 : (ByteArray.mk ⟨b :: r⟩)[0]'(Nat.succ_pos _) = b := rfl
    have e3 : iM ⟨⟨b :: r⟩⟩ = ((45 : UInt8) == b) := by
      simp [iM, Lib.hasPrefix, List.isPrefixOf]
    rw [e3]
    show ((((ByteArray.mk ⟨b :: r⟩)[0]'(Nat.succ_pos _)).toNat : Int) == 45) = _
    rw [e2, Bool.eq_iff_iff, beq_iff_eq, beq_iff_eq]
    constructor
    · intro h
      apply UInt8.toNat_inj.1
      simp
      omega
    · intro h
      rw [← h]
      rfl
end Go.Proofs.YtgphopkifomffaaGreatDoor
namespace Go.Proofs.YtgphopkifomffaaGreatDoor
open Go.RowKit Go.Shelf
open Go.Lib (decDigits nDigits)
set_option linter.unusedVariables false
def cPE (s : ByteArray) : Int := if qE s ≠ 0 then qE s else if iM (cW s) = true ∨ 0 < cmpN (cW s).data.toList (qD s).data.toList then 2 else if 1000 < (cW s).size ∨ 1000 < (qD s).size then 5 else 0
set_option maxRecDepth 100000 in
set_option maxHeartbeats 2000000 in
theorem c_parts (w : World) (s : ByteArray) (hs : s.size ≤ 100000) (hL : Lay w) :
    Calls Tryz.prog 226 #[.string s] w fun e w' => e = .returned (.tuple #[.string (if cPE s = 0 then cW s else ⟨#[]⟩), .string (if cPE s = 0 then qD s else ⟨#[]⟩), .int .i64 (cPE s)]) ∧ Below w.heap.size w w' := by
  have HC := hid (q_Parts w s (by omega) hL)
  have z1 := cW_size s
  have z2 := qD_size s
  have HM := fun V => hid (n_Cmp V (cW s) (qD s) (by omega) (by omega))
  by_cases he : qE s = 0
  · have e1 : pW s = cW s := if_pos he
    have e2 : pD s = qD s := if_pos he
    rw [e1, e2, he] at HC
    have HE : cPE s = if iM (cW s) = true ∨ 0 < cmpN (cW s).data.toList (qD s).data.toList then 2 else if 1000 < (cW s).size ∨ 1000 < (qD s).size then 5 else 0 := by
      unfold cPE
      rw [if_neg (fun h => h he)]
    rw [HE]
    clear HE e1 e2
    obtain ⟨D, hD⟩ : ∃ D, qD s = D := ⟨_, rfl⟩
    obtain ⟨W, hW⟩ : ∃ W, cW s = W := ⟨_, rfl⟩
    obtain ⟨hw0, hiM⟩ := qE_head he hW
    clear he
    obtain ⟨m, hm⟩ : ∃ m, iM W = m := ⟨_, rfl⟩
    obtain ⟨c, hc⟩ : ∃ c, cmpN W.data.toList D.data.toList = c := ⟨_, rfl⟩
    rw [hD, hW] at HC HM
    rw [hm] at hiM
    rw [hc] at HM
    rw [hD, hW, hm, hc]
    clear hD hW hm hc z1 z2
    rcases m with _ | _
    · by_cases hc2 : 0 < c
      · have q0 : decide ((0 : Int) < c) = true := by simp; omega
        simp only [hc2, or_true, if_true, show ¬ (2 : Int) = 0 by decide, if_false]
        clear hc2
        go_enter Tryz.func226, Tryz.ntmps226
        go_wp2_with fail
        refine HC.out.mono ?_; rintro e w1 ⟨rfl, hb1⟩
        have y1 := hid hb1; clear hb1
        go_wp2_with fail
        refine (HM _).out.mono ?_; rintro e w2 ⟨rfl, hb2⟩
        have y2 := hid (bnext y1.out hb2); clear hb2
        go_wp2_with fail
        go_ret3
        exact ⟨rfl, y2.out⟩
      · have q0 : decide ((0 : Int) < c) = false := by simp; omega
        simp only [hc2, Bool.false_eq_true, or_self, if_false]
        clear hc2
        by_cases hl1 : 1000 < W.size
        · have q1 : decide ((1000 : Int) < (W.size : Int)) = true := by simp; omega
          simp only [hl1, true_or, if_true, show ¬ (5 : Int) = 0 by decide, if_false]
          clear hl1
          go_enter Tryz.func226, Tryz.ntmps226
          go_wp2_with fail
          refine HC.out.mono ?_; rintro e w1 ⟨rfl, hb1⟩
          have y1 := hid hb1; clear hb1
          go_wp2_with fail
          refine (HM _).out.mono ?_; rintro e w2 ⟨rfl, hb2⟩
          have y2 := hid (bnext y1.out hb2); clear hb2
          go_wp2_with fail
          go_ret3
          exact ⟨rfl, y2.out⟩
        · have q1 : decide ((1000 : Int) < (W.size : Int)) = false := by simp; omega
          by_cases hl2 : 1000 < D.size
          · have q2 : decide ((1000 : Int) < (D.size : Int)) = true := by simp; omega
            simp only [hl2, or_true, if_true, show ¬ (5 : Int) = 0 by decide, if_false]
            clear hl1 hl2
            go_enter Tryz.func226, Tryz.ntmps226
            go_wp2_with fail
            refine HC.out.mono ?_; rintro e w1 ⟨rfl, hb1⟩
            have y1 := hid hb1; clear hb1
            go_wp2_with fail
            refine (HM _).out.mono ?_; rintro e w2 ⟨rfl, hb2⟩
            have y2 := hid (bnext y1.out hb2); clear hb2
            go_wp2_with fail
            go_ret3
            exact ⟨rfl, y2.out⟩
          · have q2 : decide ((1000 : Int) < (D.size : Int)) = false := by simp; omega
            simp only [hl1, hl2, or_self, if_false, if_true]
            clear hl1 hl2
            go_enter Tryz.func226, Tryz.ntmps226
            go_wp2_with fail
            refine HC.out.mono ?_; rintro e w1 ⟨rfl, hb1⟩
            have y1 := hid hb1; clear hb1
            go_wp2_with fail
            refine (HM _).out.mono ?_; rintro e w2 ⟨rfl, hb2⟩
            have y2 := hid (bnext y1.out hb2); clear hb2
            go_wp2_with fail
            go_ret3
            exact ⟨rfl, y2.out⟩
    · simp only [true_or, if_true, show ¬ (2 : Int) = 0 by decide, if_false]
      go_enter Tryz.func226, Tryz.ntmps226
      go_wp2_with fail
      refine HC.out.mono ?_; rintro e w1 ⟨rfl, hb1⟩
      have y1 := hid hb1; clear hb1
      go_wp2_with fail
      go_ret3
      exact ⟨rfl, y1.out⟩
  · have e1 : pW s = ⟨#[]⟩ := if_neg he
    have e2 : pD s = ⟨#[]⟩ := if_neg he
    have e3 : cPE s = qE s := by unfold cPE; rw [if_pos he]
    rw [e1, e2] at HC
    rw [e3, if_neg he, if_neg he]
    obtain ⟨x, hx⟩ : ∃ x, qE s = x := ⟨_, rfl⟩
    rw [hx] at HC he ⊢
    have q0 : (x == 0) = false := by simpa using he
    have q1 : (x != 0) = true := by simpa using he
    clear e1 e2 e3 hx z1 z2 HM
    go_enter Tryz.func226, Tryz.ntmps226
    go_wp2_with fail
    refine HC.out.mono ?_; rintro e w1 ⟨rfl, hb1⟩
    have y1 := hid hb1; clear hb1
    go_wp2_with fail
    go_ret3
    exact ⟨rfl, y1.out⟩
def gPE (s : ByteArray) : Int := if qE s ≠ 0 then qE s else if iM (cW s) = true ∨ 0 ≤ cmpN (cW s).data.toList (qD s).data.toList then 2 else if 1000 < (cW s).size ∨ 1000 < (qD s).size then 5 else 0
set_option maxRecDepth 100000 in
set_option maxHeartbeats 2000000 in
theorem g_ratio (w : World) (s : ByteArray) (hs : s.size ≤ 100000) (hL : Lay w) :
    Calls Tryz.prog 95 #[.string s] w fun e w' => e = .returned (.tuple #[.string (if gPE s = 0 then cW s else ⟨#[]⟩), .string (if gPE s = 0 then qD s else ⟨#[]⟩), .int .i64 (gPE s)]) ∧ Below w.heap.size w w' := by
  have HC := hid (q_Parts w s (by omega) hL)
  have z1 := cW_size s
  have z2 := qD_size s
  have HM := fun V => hid (n_Cmp V (cW s) (qD s) (by omega) (by omega))
  by_cases he : qE s = 0
  · have e1 : pW s = cW s := if_pos he
    have e2 : pD s = qD s := if_pos he
    rw [e1, e2, he] at HC
    have HE : gPE s = if iM (cW s) = true ∨ 0 ≤ cmpN (cW s).data.toList (qD s).data.toList then 2 else if 1000 < (cW s).size ∨ 1000 < (qD s).size then 5 else 0 := by
      unfold gPE
      rw [if_neg (fun h => h he)]
    rw [HE]
    clear HE e1 e2
    obtain ⟨D, hD⟩ : ∃ D, qD s = D := ⟨_, rfl⟩
    obtain ⟨W, hW⟩ : ∃ W, cW s = W := ⟨_, rfl⟩
    obtain ⟨hw0, hiM⟩ := qE_head he hW
    clear he
    obtain ⟨m, hm⟩ : ∃ m, iM W = m := ⟨_, rfl⟩
    obtain ⟨c, hc⟩ : ∃ c, cmpN W.data.toList D.data.toList = c := ⟨_, rfl⟩
    rw [hD, hW] at HC HM
    rw [hm] at hiM
    rw [hc] at HM
    rw [hD, hW, hm, hc]
    clear hD hW hm hc z1 z2
    rcases m with _ | _
    · by_cases hc2 : 0 ≤ c
      · have q0 : decide ((0 : Int) ≤ c) = true := by simp; omega
        simp only [hc2, or_true, if_true, show ¬ (2 : Int) = 0 by decide, if_false]
        clear hc2
        go_enter Tryz.func95, Tryz.ntmps95
        go_wp2_with fail
        refine HC.out.mono ?_; rintro e w1 ⟨rfl, hb1⟩
        have y1 := hid hb1; clear hb1
        go_wp2_with fail
        refine (HM _).out.mono ?_; rintro e w2 ⟨rfl, hb2⟩
        have y2 := hid (bnext y1.out hb2); clear hb2
        go_wp2_with fail
        go_ret3
        exact ⟨rfl, y2.out⟩
      · have q0 : decide ((0 : Int) ≤ c) = false := by simp; omega
        simp only [hc2, Bool.false_eq_true, or_self, if_false]
        clear hc2
        by_cases hl1 : 1000 < W.size
        · have q1 : decide ((1000 : Int) < (W.size : Int)) = true := by simp; omega
          simp only [hl1, true_or, if_true, show ¬ (5 : Int) = 0 by decide, if_false]
          clear hl1
          go_enter Tryz.func95, Tryz.ntmps95
          go_wp2_with fail
          refine HC.out.mono ?_; rintro e w1 ⟨rfl, hb1⟩
          have y1 := hid hb1; clear hb1
          go_wp2_with fail
          refine (HM _).out.mono ?_; rintro e w2 ⟨rfl, hb2⟩
          have y2 := hid (bnext y1.out hb2); clear hb2
          go_wp2_with fail
          go_ret3
          exact ⟨rfl, y2.out⟩
        · have q1 : decide ((1000 : Int) < (W.size : Int)) = false := by simp; omega
          by_cases hl2 : 1000 < D.size
          · have q2 : decide ((1000 : Int) < (D.size : Int)) = true := by simp; omega
            simp only [hl2, or_true, if_true, show ¬ (5 : Int) = 0 by decide, if_false]
            clear hl1 hl2
            go_enter Tryz.func95, Tryz.ntmps95
            go_wp2_with fail
            refine HC.out.mono ?_; rintro e w1 ⟨rfl, hb1⟩
            have y1 := hid hb1; clear hb1
            go_wp2_with fail
            refine (HM _).out.mono ?_; rintro e w2 ⟨rfl, hb2⟩
            have y2 := hid (bnext y1.out hb2); clear hb2
            go_wp2_with fail
            go_ret3
            exact ⟨rfl, y2.out⟩
          · have q2 : decide ((1000 : Int) < (D.size : Int)) = false := by simp; omega
            simp only [hl1, hl2, or_self, if_false, if_true]
            clear hl1 hl2
            go_enter Tryz.func95, Tryz.ntmps95
            go_wp2_with fail
            refine HC.out.mono ?_; rintro e w1 ⟨rfl, hb1⟩
            have y1 := hid hb1; clear hb1
            go_wp2_with fail
            refine (HM _).out.mono ?_; rintro e w2 ⟨rfl, hb2⟩
            have y2 := hid (bnext y1.out hb2); clear hb2
            go_wp2_with fail
            go_ret3
            exact ⟨rfl, y2.out⟩
    · simp only [true_or, if_true, show ¬ (2 : Int) = 0 by decide, if_false]
      go_enter Tryz.func95, Tryz.ntmps95
      go_wp2_with fail
      refine HC.out.mono ?_; rintro e w1 ⟨rfl, hb1⟩
      have y1 := hid hb1; clear hb1
      go_wp2_with fail
      go_ret3
      exact ⟨rfl, y1.out⟩
  · have e1 : pW s = ⟨#[]⟩ := if_neg he
    have e2 : pD s = ⟨#[]⟩ := if_neg he
    have e3 : gPE s = qE s := by unfold gPE; rw [if_pos he]
    rw [e1, e2] at HC
    rw [e3, if_neg he, if_neg he]
    obtain ⟨x, hx⟩ : ∃ x, qE s = x := ⟨_, rfl⟩
    rw [hx] at HC he ⊢
    have q0 : (x == 0) = false := by simpa using he
    have q1 : (x != 0) = true := by simpa using he
    clear e1 e2 e3 hx z1 z2 HM
    go_enter Tryz.func95, Tryz.ntmps95
    go_wp2_with fail
    refine HC.out.mono ?_; rintro e w1 ⟨rfl, hb1⟩
    have y1 := hid hb1; clear hb1
    go_wp2_with fail
    go_ret3
    exact ⟨rfl, y1.out⟩
end Go.Proofs.YtgphopkifomffaaGreatDoor
namespace Go.Proofs.YtgphopkifomffaaGreatDoor
open Go.RowKit
open Go.Lib (decDigits nDigits)
theorem toss_done {N D K T : Nat} {l : List UInt8} (h : sdB N D K T = true) : toss N D K T l = (true, sdV N D K T, 0) := by
  rw [toss.eq_def]; dsimp only; rw [if_pos h]
theorem toss_late {N D K T : Nat} (h : sdB N D K T = false) : toss N D K T [] = (false, 0, 0) := by
  rw [toss.eq_def]; dsimp only; rw [if_neg (by simp [h])]
theorem toss_next {N D K T : Nat} {b : UInt8} {r : List UInt8} (h : sdB N D K T = false) : toss N D K T (b :: r) = ((toss N D (2 * K + (if b = 49 then 1 else 0)) (2 * T) r).1, (toss N D (2 * K + (if b = 49 then 1 else 0)) (2 * T) r).2.1, (toss N D (2 * K + (if b = 49 then 1 else 0)) (2 * T) r).2.2 + 1) := by
  rw [toss.eq_def]; dsimp only; rw [if_neg (by simp [h])]
def tossAt (N D : Nat) (l : List UInt8) (K T u : Nat) : Bool × Nat × Nat := let x := toss N D K T (l.drop u); (x.1, x.2.1, x.2.2 + u)
theorem tossAt_done {N D K T u : Nat} {l : List UInt8} (h : sdB N D K T = true) : tossAt N D l K T u = (true, sdV N D K T, u) := by
  unfold tossAt; rw [toss_done h]; simp
theorem tossAt_late {N D K T : Nat} {l : List UInt8} (h : sdB N D K T = false) : tossAt N D l K T l.length = (false, 0, l.length) := by
  unfold tossAt; rw [List.drop_length, toss_late h]; simp
theorem tossAt_next {N D K T u : Nat} {l : List UInt8} (h : sdB N D K T = false) (hu : u < l.length) : tossAt N D l K T u = tossAt N D l (K + K + (if l[u] = 49 then 1 else 0)) (T + T) (u + 1) := by
  unfold tossAt
  rw [List.drop_eq_getElem_cons hu, toss_next h, Nat.two_mul, Nat.two_mul]
  simp only [Prod.mk.injEq, true_and]
  omega
structure Cell (K T u : Nat) : Prop where
  t : T = 2 ^ u
  k : K < T
theorem Cell.next {K T u x : Nat} (h : Cell K T u) (hx : x ≤ 1) : Cell (K + K + x) (T + T) (u + 1) := by
  refine ⟨?_, ?_⟩
  · rw [h.t, Nat.pow_succ]; omega
  · have := h.k; omega
theorem Cell.fits {N D K T u : Nat} (h : Cell K T u) (hu : u ≤ 256) (hN : N < 10 ^ eN) (hD : D < 10 ^ eN) : Fits N D K T := by
  have h1 : 2 ^ u ≤ 2 ^ 256 := Nat.pow_le_pow_right (by omega) hu
  have h2 : 2 ^ 256 < 10 ^ eK := by decide
  have ht := h.t
  have hk := h.k
  exact ⟨hN, hD, by omega, by omega⟩
theorem cPE_ok {p : ByteArray} (h : cPE p = 0) : cW p = numB (bN (cW p)) ∧ qD p = numB (bN (qD p)) ∧ bN (cW p) < 10 ^ eN ∧ bN (qD p) < 10 ^ eN ∧ bN (cW p) ≤ bN (qD p) := by
  unfold cPE at h
  split at h
  · rename_i he
    exact absurd h he
  · rename_i he
    have he' : qE p = 0 := Decidable.not_not.1 he
    split at h
    · cases h
    · rename_i h2
      split at h
      · cases h
      · rename_i h3
        obtain ⟨a, b, c, d, e1, e2⟩ := parts_ok he' (fun h => h2 (.inl h)) h3
        refine ⟨a, b, c, d, ?_⟩
        have h4 : ¬ 0 < cmpN (cW p).data.toList (qD p).data.toList := fun h => h2 (.inr h)
        rw [cmpN, if_pos ⟨e1, e2⟩, ordN] at h4
        show dv _ ≤ dv _
        split at h4
        · omega
        · split at h4
          · simp at h4
          · omega
end Go.Proofs.YtgphopkifomffaaGreatDoor
namespace Go.Proofs.YtgphopkifomffaaGreatDoor
open Go.RowKit
open Go.Lib (decDigits nDigits)
theorem toss_used (N D : Nat) : ∀ (l : List UInt8) (K T : Nat), (toss N D K T l).2.2 ≤ l.length
  | [], K, T => by
    cases h : sdB N D K T
    · rw [toss_late h]; simp
    · rw [toss_done h]; simp
  | b :: r, K, T => by
    cases h : sdB N D K T
    · rw [toss_next h]
      have := toss_used N D r (2 * K + (if b = 49 then 1 else 0)) (2 * T)
      simp only [List.length_cons]
      omega
    · rw [toss_done h]; simp
theorem toss_val (N D : Nat) : ∀ (l : List UInt8) (K T : Nat), (toss N D K T l).2.1 ≤ 1
  | [], K, T => by
    cases h : sdB N D K T
    · rw [toss_late h]; simp
    · rw [toss_done h]; simp only [sdV]; split <;> omega
  | b :: r, K, T => by
    cases h : sdB N D K T
    · rw [toss_next h]
      exact toss_val N D r _ _
    · rw [toss_done h]; simp only [sdV]; split <;> omega
theorem toss_one {N D : Nat} (h : N < D) {l : List UInt8} (hd : (toss N D 0 1 l).1 = true) (hv : (toss N D 0 1 l).2.1 = 1) : 1 ≤ (toss N D 0 1 l).2.2 := by
  cases hs : sdB N D 0 1
  · cases l with
    | nil => rw [toss_late hs] at hd; cases hd
    | cons b r => rw [toss_next hs]; simp
  · rw [toss_done hs] at hv
    simp only [sdV, Nat.mul_one, Nat.zero_mul] at hv
    simp only [sdB, Nat.mul_one, Nat.zero_mul, Nat.zero_add, Bool.or_eq_true, decide_eq_true_eq] at hs
    split at hv
    · cases hv
    · omega
def coinF (N D : Nat) (l : List UInt8) (p : Nat) : Bool × Nat × Nat := tossAt N D (l.drop p) 0 1 0
theorem coinF_eq (N D : Nat) (l : List UInt8) (p : Nat) : coinF N D l p = toss N D 0 1 (l.drop p) := by simp [coinF, tossAt]
def posOf (pre : List (Nat × Nat)) : Nat := match pre.getLast? with | some x => x.1 | none => 0
theorem posOf_nil : posOf [] = 0 := rfl
theorem posOf_snoc (pre : List (Nat × Nat)) (x : Nat × Nat) : posOf (pre ++ [x]) = x.1 := by simp [posOf]
theorem coinF_le {N D : Nat} {l : List UInt8} {p : Nat} (hp : p ≤ l.length) : p + (coinF N D l p).2.2 ≤ l.length := by
  rw [coinF_eq]
  have := toss_used N D (l.drop p) 0 1
  rw [List.length_drop] at this
  omega
end Go.Proofs.YtgphopkifomffaaGreatDoor
