/- Texts that the proof rests on, merged: Fr1, Fr3, Rt1, Mk, Pw1, Pw2, Np, Pl1, Pl2, Pl3, LyS, CdB, Bg, R1b, R1d, R1k, R1l, R1m, R1n, R1o, R1c, R3a, R2d, R2f, R2i, R2h, R1q, R1f. -/
import Derived.Test.YtlmnpocifldpmaaGreatDoorKd3
import Derived.Deep.RegionHeld3
import Derived.WalkSmall
import Derived.Maps.Own
import Derived.Maps.OwnIn
import Derived.Sort.CutIn
import Derived.Lib.SmallJoins
import Derived.IntWalk
import Derived.Laws.IdiomStrings
import Derived.WalkSpells
import Derived.Laws.Concat
set_option linter.unusedVariables false
set_option linter.unusedSimpArgs false
set_option linter.unusedSectionVars false
set_option maxRecDepth 100000
set_option maxHeartbeats 8000000
namespace Go.Proofs.YtlmnpocifldpmaaGreatDoor
open Go.RowKit
open Go.Lib (decDigits nDigits)
theorem f_Zero (w : World) : Calls Tryz.prog 192 #[] w fun e w' => RetQ .u64 0 e w' ∧ Below w.heap.size w w' := by
 go_enter Tryz.func192, Tryz.ntmps192
 go_wp2_with fail
 refine (l_Of _ 1 (by omega)).mono ?_; rintro e w1 ⟨⟨v1, rfl, hv1⟩, hb1⟩
 obtain ⟨a3, c3, rfl, _⟩ := hv1.openI
 have HV := hid hv1
 have HB := hid (show Blk w1 w.heap.size #[.bool false, .slice none 0 0, .slice none 0 0] 94 from (Blk.new w _ _).call hb1)
 have d0 := HB.out.cell 0
 have d1 := HB.out.cell 1
 have d2 := HB.out.cell 2
 have e0 := HB.out.free 0
 have e1 := HB.out.free 1
 have e2 := HB.out.free 2
 have HBB := hid hb1
 clear hb1 hv1
 simp at d0 d1 d2
 go_wp2_with fail
 obtain ⟨s1, s2⟩ := set3 HB.out false none a3 0 0 (limbs 1).length c3
 have f0 := s2.cell 0
 have f1 := s2.cell 1
 have f2 := s2.cell 2
 simp at f0 f1 f2
 refine bodyPost_ret (v := .agg #[.bool false, .slice none 0 0, .slice a3 (limbs 1).length c3]) (by simp [results, Tryz.results192, go_sem, f0, f1, f2]) rfl ⟨⟨_, rfl, IsQ.zero_ (s1 _ _ _ (IsN.zero _ _)) (s1 _ _ _ HV.out)⟩, ?_⟩
 exact (((((Below.refl _ _).alloc (Nat.le_refl _) _).trans (HBB.out.mono (by simp))).setCell (Nat.le_refl _) _).setCell (Nat.le_refl _) _).setCell (Nat.le_refl _) _
theorem qmk_red {m : Bool} {n d : Nat} (hn : 0 < n) (hd : 0 < d) {k : IntKind} {w : World} {N D : Value} (hg : Nat.gcd n d = 1) (h1 : IsN k w N n) (h2 : IsN k w D d) : IsQ k w (.agg #[.bool m, N, D]) (qmk m n d) :=
 IsQ.mk' hn hd (by rw [hg, Nat.div_one]; exact h1) (by rw [hg, Nat.div_one]; exact h2)
theorem f_Make (w : World) (m : Bool) (v u : Value) (n d : Nat) (hn : IsN .u64 w v n) (hd : IsN .u64 w u d) (h0 : 0 < d) (hln : (limbs n).length ≤ 1000000) (hld : (limbs d).length ≤ 1000000) :
 Calls Tryz.prog 120 #[.bool m, v, u] w fun e w' => RetQ .u64 (qmk m n d) e w' ∧ Below w.heap.size w w' := by
 have HN := hid hn; have HD := hid hd
 obtain ⟨a1, c1, rfl, _⟩ := hn.openI
 obtain ⟨a2, c2, rfl, _⟩ := hd.openI
 obtain ⟨k1, hk1⟩ : ∃ k, (limbs n).length = k := ⟨_, rfl⟩
 obtain ⟨k2, hk2⟩ : ∃ k, (limbs d).length = k := ⟨_, rfl⟩
 have LN := hid hln; have LD := hid hld; have H0 := hid h0
 rw [hk1] at HN ⊢
 rw [hk2] at HD ⊢
 have b0 := hid ((Below.refl w.heap.size w).alloc (Nat.le_refl _) (.cells #[.bool false, .slice none 0 0, .slice none 0 0] 94))
 have x0 := hid (Blk.new w #[.bool false, .slice none 0 0, .slice none 0 0] 94)
 have N0 := hid (HN.out.call b0.out); have D0 := hid (HD.out.call b0.out)
 clear hn hd hln hld h0 hk1 hk2
 rcases Nat.eq_zero_or_pos n with rfl | hp
 ·have hq := hid (qmk_zero m d)
  rw [hq.out]
  have hz : isZ 0 = true := rfl
  go_enter Tryz.func120, Tryz.ntmps120
  go_wp2_with fail
  refine (l_Zero _ _ _ N0.out).mono ?_; rintro e w1 ⟨rfl, rfl⟩
  rw [hz]
  clear hz
  go_wp2_with fail
  refine (f_Zero _).mono ?_; rintro e w1 ⟨⟨v1, rfl, hv1⟩, hb1⟩
  obtain ⟨M, D, rfl, h2, h3⟩ := hv1.ex
  obtain ⟨a3, c3, rfl, _⟩ := h2.openI
  obtain ⟨a4, c4, rfl, _⟩ := h3.openI
  have hm : decide ((0 : Rat).num < 0) = false := rfl
  rw [hm]
  have HB := hid (x0.out.call hb1)
  have BB := hid (bnext b0.out hb1)
  have d0 := HB.out.cell 0
  have d1 := HB.out.cell 1
  have d2 := HB.out.cell 2
  have e0 := HB.out.free 0
  have e1 := HB.out.free 1
  have e2 := HB.out.free 2
  have H2 := hid h2; have H3 := hid h3
  clear hb1 hv1 h2 h3 hm
  simp at d0 d1 d2
  obtain ⟨l1, hl1⟩ : ∃ k, (limbs (0 : Rat).num.natAbs).length = k := ⟨_, rfl⟩
  obtain ⟨l2, hl2⟩ : ∃ k, (limbs (0 : Rat).den).length = k := ⟨_, rfl⟩
  rw [hl1] at H2 ⊢
  rw [hl2] at H3 ⊢
  clear hl1 hl2
  go_wp2_with fail
  obtain ⟨s1, s2⟩ := set3 HB.out false a3 a4 l1 c3 l2 c4
  have f0 := s2.cell 0
  have f1 := s2.cell 1
  have f2 := s2.cell 2
  simp at f0 f1 f2
  refine bodyPost_ret (v := .agg #[.bool false, .slice a3 l1 c3, .slice a4 l2 c4]) (by simp [results, Tryz.results120, go_sem, f0, f1, f2]) rfl ⟨⟨_, rfl, ⟨_, _, rfl, s1 _ _ _ H2.out, s1 _ _ _ H3.out⟩⟩, ?_⟩
  exact ((BB.out.setCell (Nat.le_refl _) _).setCell (Nat.le_refl _) _).setCell (Nat.le_refl _) _
 ·have hz : isZ n = false := by unfold isZ; simpa using (by omega : n ≠ 0)
  have HP := hid hp
  clear hp
  by_cases h1 : d = 1
  ·have ho : isO d = true := isO_iff.2 h1
   have HG := hid (show Nat.gcd n d = 1 by rw [h1, Nat.gcd_one_right])
   clear h1
   go_enter Tryz.func120, Tryz.ntmps120
   go_wp2_with fail
   refine (l_Zero _ _ _ N0.out).mono ?_; rintro e w1 ⟨rfl, rfl⟩
   rw [hz]
   clear hz
   go_wp2_with fail
   refine (l_One _ _ _ D0.out).mono ?_; rintro e w1 ⟨rfl, rfl⟩
   rw [ho]
   clear ho
   go_wp2_with fail
   have hB := Blk.new w #[.bool m, .slice a1 k1 c1, .slice a2 k2 c2] 94
   have f0 := hB.cell 0
   have f1 := hB.cell 1
   have f2 := hB.cell 2
   simp at f0 f1 f2
   have b1 := (Below.refl w.heap.size w).alloc (Nat.le_refl _) (.cells #[.bool m, .slice a1 k1 c1, .slice a2 k2 c2] 94)
   refine bodyPost_ret (v := .agg #[.bool m, .slice a1 k1 c1, .slice a2 k2 c2]) (by simp [results, Tryz.results120, go_sem]) rfl ⟨⟨_, rfl, qmk_red HP.out H0.out HG.out (HN.out.call b1) (HD.out.call b1)⟩, b1⟩
  ·have ho : isO d = false := by unfold isO; simpa using h1
   obtain ⟨g, hg⟩ : ∃ g, Nat.gcd n d = g := ⟨_, rfl⟩
   have hgp : 0 < g := hg ▸ Nat.gcd_pos_of_pos_left d HP.out
   have HG := hid hg; have HGP := hid hgp
   clear h1 hg hgp
   go_enter Tryz.func120, Tryz.ntmps120
   go_wp2_with fail
   refine (l_Zero _ _ _ N0.out).mono ?_; rintro e w1 ⟨rfl, rfl⟩
   rw [hz]
   clear hz
   go_wp2_with fail
   refine (l_One _ _ _ D0.out).mono ?_; rintro e w1 ⟨rfl, rfl⟩
   rw [ho]
   clear ho
   go_wp2_with fail
   refine (l_Gcd _ _ _ _ _ N0.out D0.out LN.out LD.out).mono ?_
   rintro e w1 ⟨⟨v1, rfl, hv1⟩, hb1⟩
   rw [HG.out] at hv1
   have x1 := hid (x0.out.call hb1)
   have b1 := hid (bnext b0.out hb1)
   have N1 := hid (N0.out.call hb1); have D1 := hid (D0.out.call hb1); have G1 := hid hv1
   clear hb1 hv1
   obtain ⟨a5, c5, rfl, _⟩ := G1.out.openI
   obtain ⟨k5, hk5⟩ : ∃ k, (limbs g).length = k := ⟨_, rfl⟩
   rw [hk5] at G1 ⊢
   clear hk5
   go_wp2_with fail
   refine (l_One _ _ _ G1.out).mono ?_; rintro e w2 ⟨rfl, rfl⟩
   by_cases hg1 : g = 1
   ·have ho : isO g = true := isO_iff.2 hg1
    have HG1 := hid (show Nat.gcd n d = 1 by rw [HG.out, hg1])
    rw [ho]
    have d0 := x1.out.cell 0
    have d1 := x1.out.cell 1
    have d2 := x1.out.cell 2
    have e0 := x1.out.free 0
    have e1 := x1.out.free 1
    have e2 := x1.out.free 2
    simp at d0 d1 d2
    clear ho hg1
    go_wp2_with fail
    obtain ⟨s1, s2⟩ := set3 x1.out m a1 a2 k1 c1 k2 c2
    have f0 := s2.cell 0
    have f1 := s2.cell 1
    have f2 := s2.cell 2
    simp at f0 f1 f2
    refine bodyPost_ret (v := .agg #[.bool m, .slice a1 k1 c1, .slice a2 k2 c2]) (by simp [results, Tryz.results120, go_sem, f0, f1, f2]) rfl ⟨⟨_, rfl, qmk_red HP.out H0.out HG1.out (s1 _ _ _ N1.out) (s1 _ _ _ D1.out)⟩, ?_⟩
    exact ((b1.out.setCell (Nat.le_refl _) _).setCell (Nat.le_refl _) _).setCell (Nat.le_refl _) _
   ·have ho : isO g = false := by unfold isO; simpa using hg1
    rw [ho]
    clear ho hg1
    go_wp2_with fail
    refine (l_DivMod _ _ _ n g N1.out G1.out HGP.out LN.out).mono ?_
    rintro e w2 ⟨⟨v2, v3, rfl, hv2, -⟩, hb2⟩
    have x2 := hid (x1.out.call hb2); have b2 := hid (bnext b1.out hb2); have D2 := hid (D1.out.call hb2); have G2 := hid (G1.out.call hb2); have V2 := hid hv2
    clear hb2 hv2
    go_wp2_with fail
    refine (l_DivMod _ _ _ d g D2.out G2.out HGP.out LD.out).mono ?_
    rintro e w3 ⟨⟨v4, v5, rfl, hv4, -⟩, hb3⟩
    have x3 := hid (x2.out.call hb3); have b3 := hid (bnext b2.out hb3); have W2 := hid (V2.out.call hb3); have W4 := hid hv4
    clear hb3 hv4
    obtain ⟨a6, c6, rfl, _⟩ := W2.out.openI
    obtain ⟨a7, c7, rfl, _⟩ := W4.out.openI
    have d0 := x3.out.cell 0
    have d1 := x3.out.cell 1
    have d2 := x3.out.cell 2
    have e0 := x3.out.free 0
    have e1 := x3.out.free 1
    have e2 := x3.out.free 2
    simp at d0 d1 d2
    go_wp2_with fail
    obtain ⟨s1, s2⟩ := set3 x3.out m a6 a7 (limbs (n / g)).length c6 (limbs (d / g)).length c7
    have f0 := s2.cell 0
    have f1 := s2.cell 1
    have f2 := s2.cell 2
    simp at f0 f1 f2
    refine bodyPost_ret (v := .agg #[.bool m, .slice a6 (limbs (n / g)).length c6, .slice a7 (limbs (d / g)).length c7]) (by simp [results, Tryz.results120, go_sem, f0, f1, f2]) rfl ⟨⟨_, rfl, IsQ.mk' HP.out H0.out (HG.out ▸ s1 _ _ _ W2.out) (HG.out ▸ s1 _ _ _ W4.out)⟩, ?_⟩
    exact ((b3.out.setCell (Nat.le_refl _) _).setCell (Nat.le_refl _) _).setCell (Nat.le_refl _) _
theorem outB_ov {q : Rat} (h : ovQ q) : outB q = ⟨#[]⟩ := if_pos h
theorem outB_ok {q : Rat} (h : ¬ ovQ q) : outB q = txQ q := if_neg h
theorem outE_ov {q : Rat} (h : ovQ q) : outE q = 5 := if_pos h
theorem outE_ok {q : Rat} (h : ¬ ovQ q) : outE q = 0 := if_neg h
theorem ba_append (a b : ByteArray) : (a ++ b).data.toList = a.data.toList ++ b.data.toList := by simp
theorem txB_ff (n : Nat) : txB false n 1 = numB n := by apply ba_ext; simp [txB, numB]
theorem txB_tf (n : Nat) : txB true n 1 = ⟨#[45]⟩ ++ numB n := by apply ba_ext; rw [ba_append, txB_list, numB_list]; simp
theorem txB_ft (n d : Nat) (h : d ≠ 1) : txB false n d = numB n ++ (⟨#[47]⟩ ++ numB d) := by apply ba_ext; rw [ba_append, ba_append, txB_list, numB_list, numB_list, if_neg h]; simp
theorem txB_tt (n d : Nat) (h : d ≠ 1) : txB true n d = ⟨#[45]⟩ ++ numB n ++ (⟨#[47]⟩ ++ numB d) := by apply ba_ext; rw [ba_append, ba_append, ba_append, txB_list, numB_list, numB_list, if_neg h]; simp
theorem f_Num (w : World) (v : Value) (q : Rat) (h : IsQ .u64 w v q) (h1 : (limbs q.num.natAbs).length ≤ 1000000) (h2 : (limbs q.den).length ≤ 1000000) (hL : Lay w) :
 Calls Tryz.prog 57 #[v] w fun e w' => e = .returned (.tuple #[.string (outB q), .int .i64 (outE q)]) ∧ Below w.heap.size w w' := by
 obtain ⟨N, D, rfl, hn, hd⟩ := h.ex
 obtain ⟨m, hm⟩ : ∃ m, decide (q.num < 0) = m := ⟨_, rfl⟩
 have HN := hid hn; have HD := hid hd; have HM := hid hm; have HL := hid hL; have L1 := hid h1; have L2 := hid h2
 rw [hm]
 obtain ⟨a1, c1, rfl, _⟩ := hn.openI
 obtain ⟨a2, c2, rfl, _⟩ := hd.openI
 obtain ⟨k1, hk1⟩ : ∃ k, (limbs q.num.natAbs).length = k := ⟨_, rfl⟩
 obtain ⟨k2, hk2⟩ : ∃ k, (limbs q.den).length = k := ⟨_, rfl⟩
 rw [hk1] at HN ⊢
 rw [hk2] at HD ⊢
 have b0 := hid ((Below.refl w.heap.size w).alloc (Nat.le_refl _) (.cells #[.bool m, .slice a1 k1 c1, .slice a2 k2 c2] 94))
 have x0 := hid (Blk.new w #[.bool m, .slice a1 k1 c1, .slice a2 k2 c2] 94)
 have N0 := hid (HN.out.call b0.out); have D0 := hid (HD.out.call b0.out)
 clear hn hd hm h hk1 hk2 hL h1 h2
 by_cases o1 : 4000 < nDigits q.num.natAbs
 ·have ho : ovQ q := .inl o1
  rw [outB_ov ho, outE_ov ho]
  have q0 : decide ((4000 : Int) < (nDigits q.num.natAbs : Nat)) = true := by simp; omega
  clear o1 ho
  go_enter Tryz.func57, Tryz.ntmps57
  go_wp2_with fail
  refine (l_Digits _ _ _ N0.out (HL.out.call b0.out) L1.out).mono ?_; rintro e w1 ⟨rfl, hb1⟩
  have b1 := hid (bnext b0.out hb1); clear hb1
  go_wp2_with fail
  go_ret2
  exact ⟨rfl, b1.out⟩
 ·have q0 : decide ((4000 : Int) < (nDigits q.num.natAbs : Nat)) = false := by simp; omega
  by_cases o2 : 4000 < nDigits q.den
  ·have ho : ovQ q := .inr o2
   rw [outB_ov ho, outE_ov ho]
   have q1 : decide ((4000 : Int) < (nDigits q.den : Nat)) = true := by simp; omega
   clear o1 ho o2
   go_enter Tryz.func57, Tryz.ntmps57
   go_wp2_with fail
   refine (l_Digits _ _ _ N0.out (HL.out.call b0.out) L1.out).mono ?_; rintro e w1 ⟨rfl, hb1⟩
   have b1 := hid (bnext b0.out hb1); have D1 := hid (D0.out.call hb1)
   have x1 := x0.out.call hb1
   have r2 := x1.cell 2
   simp at r2
   clear hb1 x1
   go_wp2_with fail
   refine (l_Digits _ _ _ D1.out (HL.out.call b1.out) L2.out).mono ?_; rintro e w2 ⟨rfl, hb2⟩
   have b2 := hid (bnext b1.out hb2); clear hb2 r2
   go_wp2_with fail
   go_ret2
   exact ⟨rfl, b2.out⟩
  ·have ho : ¬ ovQ q := fun h => h.elim o1 o2
   rw [outB_ok ho, outE_ok ho]
   have q1 : decide ((4000 : Int) < (nDigits q.den : Nat)) = false := by simp; omega
   obtain ⟨z, hz⟩ : ∃ z, isO q.den = z := ⟨_, rfl⟩
   have HO := fun W h => hid (l_One W (.slice a2 k2 c2) q.den h)
   rw [hz] at HO
   have HT : Hid (txQ q = txB m q.num.natAbs q.den) := by rw [← HM.out]; rfl
   have HZ := hid hz
   rw [HT.out]
   obtain ⟨T, hT⟩ : ∃ T, txB m q.num.natAbs q.den = T := ⟨_, rfl⟩
   have HTT := hid hT
   rw [hT]
   have HS1 := fun W hv hL => hid (l_String W (.slice a1 k1 c1) q.num.natAbs hv hL L1.out)
   have HS2 := fun W hv hL => hid (l_String W (.slice a2 k2 c2) q.den hv hL L2.out)
   have en : (⟨(Lib.decDigits q.num.natAbs).toArray⟩ : ByteArray) = numB q.num.natAbs := rfl
   have ed : (⟨(Lib.decDigits q.den).toArray⟩ : ByteArray) = numB q.den := rfl
   rw [en] at HS1
   rw [ed] at HS2
   obtain ⟨sn, hsn⟩ : ∃ s, numB q.num.natAbs = s := ⟨_, rfl⟩
   obtain ⟨sd, hsd⟩ : ∃ s, numB q.den = s := ⟨_, rfl⟩
   rw [hsn] at HS1
   rw [hsd] at HS2
   have HSN := hid hsn; have HSD := hid hsd
   have hs1 : sn.size ≤ 4000 := by rw [← hsn, numB_size]; omega
   have hs2 : sd.size ≤ 4000 := by rw [← hsd, numB_size]; omega
   clear o1 ho o2 hT hz en ed hsn hsd
   go_enter Tryz.func57, Tryz.ntmps57
   go_wp2_with fail
   refine (l_Digits _ _ _ N0.out (HL.out.call b0.out) L1.out).mono ?_; rintro e w1 ⟨rfl, hb1⟩
   have b1 := hid (bnext b0.out hb1); have D1 := hid (D0.out.call hb1); have x1 := hid (x0.out.call hb1); have N1 := hid (N0.out.call hb1)
   have r2 := x1.out.cell 2
   simp at r2
   clear hb1
   go_wp2_with fail
   refine (l_Digits _ _ _ D1.out (HL.out.call b1.out) L2.out).mono ?_; rintro e w2 ⟨rfl, hb2⟩
   have b2 := hid (bnext b1.out hb2); have D2 := hid (D1.out.call hb2); have x2 := hid (x1.out.call hb2); have N2 := hid (N1.out.call hb2)
   have r1 := x2.out.cell 1
   simp at r1
   clear hb2 r2
   go_wp2_with fail
   refine (HS1 _ N2.out (HL.out.call b2.out)).out.mono ?_; rintro e w3 ⟨rfl, hb3⟩
   have b3 := hid (bnext b2.out hb3); have D3 := hid (D2.out.call hb3); have x3 := hid (x2.out.call hb3)
   have r0 := x3.out.cell 0
   have r2 := x3.out.cell 2
   simp at r0 r2
   clear hb3 r1 HS1
   cases m
   ·go_wp2_with fail
    refine (HO _ D3.out).out.mono ?_; rintro e w4 ⟨rfl, rfl⟩
    cases z
    ·go_wp2_with fail
     refine (HS2 _ D3.out (HL.out.call b3.out)).out.mono ?_; rintro e w5 ⟨rfl, hb5⟩
     have b5 := hid (bnext b3.out hb5); clear hb5 r0 r2
     go_wp2_with fail
     go_ret2
     have hTe : T = sn ++ (⟨#[47]⟩ ++ sd) := by rw [← HTT.out, txB_ft _ _ (of_decide_eq_false HZ.out), HSN.out, HSD.out]
     exact ⟨by rw [hTe]; rfl, b5.out⟩
    ·go_wp2_with fail
     go_ret2
     have hTe : T = sn := by rw [← HTT.out, isO_iff.1 HZ.out, txB_ff, HSN.out]
     exact ⟨by rw [hTe]; rfl, b3.out⟩
   ·go_wp2_with fail
    refine (HO _ D3.out).out.mono ?_; rintro e w4 ⟨rfl, rfl⟩
    cases z
    ·go_wp2_with fail
     refine (HS2 _ D3.out (HL.out.call b3.out)).out.mono ?_; rintro e w5 ⟨rfl, hb5⟩
     have b5 := hid (bnext b3.out hb5); clear hb5 r0 r2
     go_wp2_with fail
     go_ret2
     have hTe : T = ⟨#[45]⟩ ++ sn ++ (⟨#[47]⟩ ++ sd) := by rw [← HTT.out, txB_tt _ _ (of_decide_eq_false HZ.out), HSN.out, HSD.out]
     exact ⟨by rw [hTe]; rfl, b5.out⟩
    ·go_wp2_with fail
     go_ret2
     have hTe : T = ⟨#[45]⟩ ++ sn := by rw [← HTT.out, isO_iff.1 HZ.out, txB_tf, HSN.out]
     exact ⟨by rw [hTe]; rfl, b3.out⟩
def mkE (n d : ByteArray) : Int := if iB n = false then 3 else if 4000 < (iD n).size then 5 else if errN d.data.toList ≠ 0 then errN d.data.toList else if d = ⟨#[48]⟩ then 6 else outE (qmk (iM n) (bN (iD n)) (bN d))
def mkB (n d : ByteArray) : ByteArray := if iB n = false then ⟨#[]⟩ else if 4000 < (iD n).size then ⟨#[]⟩ else if errN d.data.toList ≠ 0 then ⟨#[]⟩ else if d = ⟨#[48]⟩ then ⟨#[]⟩ else outB (qmk (iM n) (bN (iD n)) (bN d))
theorem qmk_len {m : Bool} {n d L : Nat} (hd : 0 < d) (h1 : (limbs n).length ≤ L) (h2 : (limbs d).length ≤ L) : (limbs (qmk m n d).num.natAbs).length ≤ L ∧ (limbs (qmk m n d).den).length ≤ L := by
 rw [qmk_num hd, qmk_den hd, sgn_natAbs]
 exact ⟨Nat.le_trans (limbs_length_mono (Nat.div_le_self _ _)) h1, Nat.le_trans (limbs_length_mono (Nat.div_le_self _ _)) h2⟩
theorem q_Make (w : World) (n d : ByteArray) (hn : n.size ≤ 1000000) (hd : d.size ≤ 1000000) (hL : Lay w) :
 Calls Tryz.prog 210 #[.string n, .string d] w fun e w' => e = .returned (.tuple #[.string (mkB n d), .int .i64 (mkE n d)]) ∧ Below w.heap.size w w' := by
 have HL := hid hL
 have hz := iD_size n
 have HI := fun V => hid (f_Integer V n (by omega))
 have HC := fun V => hid (n_Check V d (by omega))
 have HP1 := fun V h => hid (l_Parse V (iD n) h (by omega))
 have HP2 := fun V h => hid (l_Parse V d h hd)
 cases hb : iB n
 ·have e1 : mkB n d = ⟨#[]⟩ := if_pos hb
  have e2 : mkE n d = 3 := if_pos hb
  rw [e1, e2]
  rw [hb] at HI
  clear e1 e2 hb hz HP1 HP2 hn hd hL
  go_enter Tryz.func210, Tryz.ntmps210
  go_wp2_with fail
  refine (HI _).out.mono ?_; rintro e w1 ⟨rfl, hb1⟩
  have b1 := hid hb1; clear hb1
  go_wp2_with fail
  go_ret2
  exact ⟨rfl, b1.out⟩
 ·have nb : ¬ iB n = false := by simp [hb]
  by_cases h1 : 4000 < (iD n).size
  ·have e1 : mkB n d = ⟨#[]⟩ := by rw [mkB, if_neg nb, if_pos h1]
   have e2 : mkE n d = 5 := by rw [mkE, if_neg nb, if_pos h1]
   have q0 : decide ((4000 : Int) < ((iD n).size : Nat)) = true := by simp; omega
   rw [e1, e2]
   rw [hb] at HI
   clear e1 e2 hb hz HP1 HP2 hn hd hL h1 nb
   go_enter Tryz.func210, Tryz.ntmps210
   go_wp2_with fail
   refine (HI _).out.mono ?_; rintro e w1 ⟨rfl, hb1⟩
   have b1 := hid hb1; clear hb1
   go_wp2_with fail
   go_ret2
   exact ⟨rfl, b1.out⟩
  ·have q0 : decide ((4000 : Int) < ((iD n).size : Nat)) = false := by simp; omega
   by_cases h2 : errN d.data.toList = 0
   ·have nc : ¬ errN d.data.toList ≠ 0 := fun h => h h2
    by_cases h3 : d = ⟨#[48]⟩
    ·have e1 : mkB n d = ⟨#[]⟩ := by rw [mkB, if_neg nb, if_neg h1, if_neg nc, if_pos h3]
     have e2 : mkE n d = 6 := by rw [mkE, if_neg nb, if_neg h1, if_neg nc, if_pos h3]
     rw [e1, e2]
     rw [hb] at HI
     rw [h2] at HC
     clear e1 e2 hb hz HP1 HP2 hn hd hL h1 nb nc h2
     subst h3
     go_enter Tryz.func210, Tryz.ntmps210
     go_wp2_with fail
     refine (HI _).out.mono ?_; rintro e w1 ⟨rfl, hb1⟩
     have b1 := hid hb1; clear hb1
     go_wp2_with fail
     refine (HC _).out.mono ?_; rintro e w2 ⟨rfl, hb2⟩
     have b2 := hid (bnext b1.out hb2); clear hb2
     go_wp2_with fail
     go_ret2
     exact ⟨rfl, b2.out⟩
    ·have e1 : mkB n d = outB (qmk (iM n) (bN (iD n)) (bN d)) := by rw [mkB, if_neg nb, if_neg h1, if_neg nc, if_neg h3]
     have e2 : mkE n d = outE (qmk (iM n) (bN (iD n)) (bN d)) := by rw [mkE, if_neg nb, if_neg h1, if_neg nc, if_neg h3]
     rw [e1, e2]
     have d1 := fB_dig (iB_form hb)
     obtain ⟨d2, d3, d4⟩ := errN_dig h2
     have hdp : 0 < bN d := formZ (formB_iff.2 (by obtain ⟨x, hx, _⟩ := errN_zero.1 h2; exact isForm_iff.2 ⟨x, hx⟩)) h3
     have l1 : (limbs (bN (iD n))).length ≤ 1000 := dv_limbs d1 (by rw [list_size]; omega)
     have l2 : (limbs (bN d)).length ≤ 1000 := d4
     have HP1 := fun V => HP1 V d1
     have HP2 := fun V => HP2 V d2
     have HQ := qmk_len (m := iM n) hdp l1 l2
     have HM := fun V v u hv hu => hid (f_Make V (iM n) v u (bN (iD n)) (bN d) hv hu hdp (by omega) (by omega))
     obtain ⟨Q, hQ⟩ : ∃ Q, qmk (iM n) (bN (iD n)) (bN d) = Q := ⟨_, rfl⟩
     rw [hQ] at HQ HM ⊢
     have HN := fun V v hv hL => hid (f_Num V v Q hv (by omega) (by omega) hL)
     rw [hb] at HI
     rw [h2] at HC
     have i1 := ne_lit (l := [48]) h3
     clear e1 e2 hb hz hn hd hL h1 nb nc h2 h3 d1 d2 d3 d4 hdp l1 l2 HQ hQ
     go_enter Tryz.func210, Tryz.ntmps210
     go_wp2_with fail
     refine (HI _).out.mono ?_; rintro e w1 ⟨rfl, hb1⟩
     have b1 := hid hb1; clear hb1
     go_wp2_with fail
     refine (HC _).out.mono ?_; rintro e w2 ⟨rfl, hb2⟩
     have b2 := hid (bnext b1.out hb2); clear hb2
     go_wp2_with fail
     refine (HP1 _).out.mono ?_; rintro e w3 ⟨⟨v3, rfl, hv3⟩, hb3⟩
     have b3 := hid (bnext b2.out hb3); have V3 := hid hv3; clear hb3 hv3
     go_wp2_with fail
     refine (HP2 _).out.mono ?_; rintro e w4 ⟨⟨v4, rfl, hv4⟩, hb4⟩
     have b4 := hid (bnext b3.out hb4); have V4 := hid hv4; have W3 := hid (V3.out.call hb4); clear hb4 hv4
     go_wp2_with fail
     refine (HM _ _ _ W3.out V4.out).out.mono ?_; rintro e w5 ⟨⟨v5, rfl, hv5⟩, hb5⟩
     have b5 := hid (bnext b4.out hb5); have V5 := hid hv5; clear hb5 hv5
     go_wp2_with fail
     refine (HN _ _ V5.out (HL.out.call b5.out)).out.mono ?_; rintro e w6 ⟨rfl, hb6⟩
     have b6 := hid (bnext b5.out hb6); clear hb6
     go_wp2_with fail
     go_ret2
     exact ⟨rfl, b6.out⟩
   ·have e1 : mkB n d = ⟨#[]⟩ := by rw [mkB, if_neg nb, if_neg h1, if_pos h2]
    have e2 : mkE n d = errN d.data.toList := by rw [mkE, if_neg nb, if_neg h1, if_pos h2]
    rw [e1, e2]
    rw [hb] at HI
    obtain ⟨x, hx⟩ : ∃ x, errN d.data.toList = x := ⟨_, rfl⟩
    rw [hx] at HC h2 ⊢
    have q1 : (x == 0) = false := by simpa using h2
    have q2 : (x != 0) = true := by simpa using h2
    clear e1 e2 hb hz HP1 HP2 hn hd hL h1 nb h2 hx
    go_enter Tryz.func210, Tryz.ntmps210
    go_wp2_with fail
    refine (HI _).out.mono ?_; rintro e w1 ⟨rfl, hb1⟩
    have b1 := hid hb1; clear hb1
    go_wp2_with fail
    refine (HC _).out.mono ?_; rintro e w2 ⟨rfl, hb2⟩
    have b2 := hid (bnext b1.out hb2); clear hb2
    go_wp2_with fail
    go_ret2
    exact ⟨rfl, b2.out⟩
theorem mk_num {a b : Nat} (ha : nDigits a ≤ 4000) (hb : nDigits b ≤ 4000) (h0 : b ≠ 0) : mkB (numB a) (numB b) = outB (qmk false a b) ∧ mkE (numB a) (numB b) = outE (qmk false a b) := by
 have e1 : iM (numB a) = false := by
  unfold iM Lib.hasPrefix
  rw [numB_list]
  exact minus_dec a
 have e2 : iD (numB a) = numB a := iD_plain e1
 have e3 : iB (numB a) = true := by
  unfold iB
  rw [e1, e2, fB_num]; rfl
 have e4 : errN (numB b).data.toList = 0 := errN_numB hb
 have e5 : ¬ (numB b = ⟨#[48]⟩) := by rw [← numB_zero]; exact numB_ne h0
 have e6 : ¬ 4000 < (iD (numB a)).size := by rw [e2, numB_size]; omega
 constructor
 ·rw [mkB, if_neg (by simp [e3]), if_neg e6, if_neg (fun h => h e4), if_neg e5, e1, e2, bN_num, bN_num]
 ·rw [mkE, if_neg (by simp [e3]), if_neg e6, if_neg (fun h => h e4), if_neg e5, e1, e2, bN_num, bN_num]
theorem NoInt.slice (a : Option Addr) (n c : Nat) : NoInt #[.slice a n c] := by
 intro i k x h
 rcases i with _ | i <;> simp at h
theorem NoInt.bool (m : Bool) : NoInt #[.bool m] := by
 intro i k x h
 rcases i with _ | i <;> simp at h
structure PowS (w : World) (bs bf bl : Nat) (sq : Nat) (fits : Bool) : Prop where
 sq : ∃ a n c, Blk w bs #[.slice a n c] 92 ∧ IsN .u64 w (.slice a n c) sq
 fits : Blk w bf #[.bool fits] 4
 lim : Blk w bl #[.int .i64 4000] 3
 n1 : bs ≠ bf
 n2 : bs ≠ bl
 n3 : bf ≠ bl
theorem l_Pow1 (w : World) (bs bf bl sq B : Nat) (f : Bool) (h : PowS w bs bf bl sq f) (hs : B ≤ bs) (hf : B ≤ bf) (hB : B ≤ w.heap.size) (hlen : (limbs sq).length ≤ 100000) (hL : Lay w) (hLB : LayLt B) :
 Calls Tryz.prog 201 #[.pointer (some ⟨bs, 0, none⟩), .pointer (some ⟨bl, 0, none⟩), .pointer (some ⟨bf, 0, none⟩)] w fun e w' =>
  (∃ v, e = .returned v) ∧ PowS w' bs bf bl (sq * sq) (decide (nDigits (sq * sq) ≤ 4000)) ∧ (∀ k v x, IsN k w v x → IsN k w' v x) ∧ Below B w w' := by
 obtain ⟨⟨a, n, c, hbs, hv⟩, hbf, hbl, n1, n2, n3⟩ := h
 have c0 : w.cell? ⟨bs, 0, none⟩ = some (.slice a n c) := hbs.cell 0
 have c1 := hbs.free 0
 have c2 : w.cell? ⟨bl, 0, none⟩ = some (.int .i64 4000) := hbl.cell 0
 have HBS := hid hbs; have HBF := hid hbf; have HBL := hid hbl; have HV := hid hv; have N1 := hid n1; have N2 := hid n2; have N3 := hid n3
 have HS := hid hs; have HF := hid hf; have HB := hid hB; have HLEN := hid hlen; have HL := hid hL; have HLB := hid hLB
 have l2 := len_mul hlen hlen
 have HLM := hid (show (limbs (sq * sq)).length ≤ 1000000 by omega)
 obtain ⟨S, hS⟩ : ∃ S, sq * sq = S := ⟨_, rfl⟩
 have HM := fun V h => hid (l_Mul V (.slice a n c) (.slice a n c) sq sq h h (by omega) (by omega))
 rw [hS] at HM HLM ⊢
 clear hbs hv hbf hbl n1 n2 n3 hs hf hB hlen hL l2 hS hLB
 go_enter Tryz.func201, Tryz.ntmps201
 go_wp2_with fail
 refine (HM _ HV.out).out.mono ?_; rintro e w1 ⟨⟨v1, rfl, hv1⟩, hb1⟩
 obtain ⟨a1, k1, d1, rfl⟩ : ∃ a k d, v1 = .slice a k d := by
  obtain ⟨a, c, e, _⟩ := hv1.openI
  exact ⟨_, _, _, e⟩
 have S1 := hid (HBS.out.call hb1); have F1 := hid (HBF.out.call hb1); have T1 := hid (HBL.out.call hb1); have B1 := hid hb1; have V1 := hid hv1
 have e0 := S1.out.free 0
 have e1 := S1.out.cell 0
 simp at e1
 clear hb1 hv1 HM c0 c1 c2
 go_wp2_with fail
 obtain ⟨w2, hw2⟩ : ∃ w2, w1.setCell ⟨bs, 0, none⟩ (.slice a1 k1 d1) = w2 := ⟨_, rfl⟩
 have s2 : Blk w2 bs #[.slice a1 k1 d1] 92 := by rw [← hw2]; exact S1.out.set 0 _
 have f2 : Blk w2 bf #[.bool f] 4 := by rw [← hw2]; exact F1.out.other (fun e => N1.out e) _
 have t2 : Blk w2 bl #[.int .i64 4000] 3 := by rw [← hw2]; exact T1.out.other (fun e => N2.out e) _
 have v2 : IsN .u64 w2 (.slice a1 k1 d1) S := by rw [← hw2]; exact V1.out.setQ S1.out (NoInt.slice _ _ _) 0 _
 have k2 : ∀ k v x, IsN k w v x → IsN k w2 v x := fun k v x h => by rw [← hw2]; exact (h.call B1.out).setQ S1.out (NoInt.slice _ _ _) 0 _
 have b2 : Below B w w2 := by rw [← hw2]; exact (B1.out.mono HB.out).setCell HS.out _
 have hsz : w.heap.size ≤ w2.heap.size := by rw [← hw2]; simpa [World.setCell] using B1.out.size
 rw [hw2]
 have S2 := hid s2; have F2 := hid f2; have T2 := hid t2; have V2 := hid v2; have K2 := hid k2; have B2 := hid b2; have SZ := hid hsz
 have L2 : Hid (Lay w2) := HL.out.below b2 HLB.out
 clear s2 f2 t2 v2 k2 b2 hw2 e0 e1 hsz
 have hS : w2.drew.cell? ⟨bs, 0, none⟩ = some (.slice a1 k1 d1) ∧ w2.drew.cell? ⟨bl, 0, none⟩ = some (.int .i64 4000) := ⟨S2.out.cell 0, T2.out.cell 0⟩
 refine held_plain [0, 2] 3 (fun W' => W'.cell? ⟨bs, 0, none⟩ = some (.slice a1 k1 d1) ∧ W'.cell? ⟨bl, 0, none⟩ = some (.int .i64 4000)) (by kernel_rfl) (by kernel_rfl) (by kernel_rfl) (by kernel_rfl) hS ?_
 iterate 2
  refine ⟨_, rfl, ?_⟩
  apply Exists.intro
  refine ⟨.inl ⟨by rfl, ?_⟩, ?_⟩
  ·(intro W' hW'; obtain ⟨q1, q2⟩ := hW'; go_simp; try (with_reducible rfl))
  (dsimp only [Act.put]; try simp only [List.setIfInBounds_toArray, List.set_cons_zero, List.set_cons_succ])
 clear hS
 refine held_one (i := 1) (by kernel_rfl) (by rfl) (by rfl) ?_
 go_wp2_with fail
 refine (l_Digits _ _ S (V2.out.call (Below.refl _ _).drew) (L2.out.call (Below.refl _ _).drew) HLM.out).mono ?_; rintro e w3 ⟨rfl, hb3⟩
 have B3 := hid (show Below w2.heap.size w2 w3 from (Below.refl _ _).drew.trans hb3)
 have S3 := hid (S2.out.call B3.out); have F3 := hid (F2.out.call B3.out); have T3 := hid (T2.out.call B3.out); have V3 := hid (V2.out.call B3.out)
 have hS : w3.cell? ⟨bs, 0, none⟩ = some (.slice a1 k1 d1) ∧ w3.cell? ⟨bl, 0, none⟩ = some (.int .i64 4000) := ⟨S3.out.cell 0, T3.out.cell 0⟩
 clear hb3
 go_wp2_with fail
 refine ⟨hS, ?_⟩
 refine held_more (is := [3]) (g := 1) (by kernel_rfl) rfl hS (by kernel_rfl) ?_
 iterate 1
  refine ⟨_, rfl, ?_⟩
  apply Exists.intro
  refine ⟨.inl ⟨by rfl, ?_⟩, ?_⟩
  ·(intro W' hW'; clear hW'; go_simp; try (with_reducible rfl))
  (dsimp only [Act.put]; try simp only [List.setIfInBounds_toArray, List.set_cons_zero, List.set_cons_succ])
 refine held_one (i := 4) (by kernel_rfl) (by rfl) (by rfl) ?_
 have g0 := F3.out.free 0
 have g1 := F3.out.cell 0
 simp at g1
 clear hS
 go_wp2_with fail
 have s4 := S3.out.other (a := ⟨bf, 0, none⟩) (fun e => N1.out e.symm) (.bool (decide ((nDigits S : Int) ≤ 4000)))
 have f4 := F3.out.set 0 (.bool (decide ((nDigits S : Int) ≤ 4000)))
 have t4 := T3.out.other (a := ⟨bf, 0, none⟩) (fun e => N3.out e) (.bool (decide ((nDigits S : Int) ≤ 4000)))
 refine ⟨⟨s4.cell 0, t4.cell 0⟩, ?_⟩
 refine wpAnyH_done (by kernel_rfl) ?_ _
 simp only [Only]
 go_wp2_with fail
 go_end0
 refine ⟨⟨_, rfl⟩, ⟨⟨a1, k1, d1, s4, V3.out.setQ F3.out (NoInt.bool _) 0 _⟩, ?_, t4, N1.out, N2.out, N3.out⟩, ?_, ?_⟩
 ·have e : decide ((nDigits S : Int) ≤ 4000) = decide (nDigits S ≤ 4000) := decide_eq_decide.2 (by omega)
  rw [← e]
  exact f4
 ·intro k v x h
  exact ((K2.out k v x h).call B3.out).setQ F3.out (NoInt.bool _) 0 _
 ·exact (B2.out.trans (B3.out.mono (Nat.le_trans HB.out SZ.out))).setCell HF.out _
structure PowI (A sq out n : Nat) (fits : Bool) : Prop where
 eq : out * sq ^ n = A
 two : 2 ≤ sq
 n1 : 1 ≤ n
 small : nDigits out ≤ 4000
 fit : fits = false → 4000 < nDigits sq
 len : fits = true → (limbs sq).length ≤ 100000
 lim : (limbs sq).length ≤ 200000
 pos : 1 ≤ out
theorem PowI.start {a n : Nat} (ha : 2 ≤ a) (hn : 1 ≤ n) (hl : (limbs a).length ≤ 100000) : PowI (a ^ n) a 1 n true :=
 ⟨Nat.one_mul _, ha, hn, by rw [nDigits_one]; omega, fun h => by (cases h), fun _ => hl, by omega, Nat.le_refl _⟩
theorem PowI.sq_le {A sq out n : Nat} {fits : Bool} (h : PowI A sq out n fits) : out * sq ≤ A := by
 rw [← h.eq]
 refine Nat.mul_le_mul_left _ ?_
 have := Nat.pow_le_pow_right (n := sq) (by have := h.two; omega) h.n1
 rwa [Nat.pow_one] at this
theorem PowI.big {A sq out n : Nat} {fits : Bool} (h : PowI A sq out n fits) (hf : fits = false) : 4000 < nDigits A := by
 refine Nat.lt_of_lt_of_le (h.fit hf) (nDigits_mono ?_)
 exact Nat.le_trans (Nat.le_mul_of_pos_left _ h.pos) h.sq_le
theorem PowI.bigO {A sq out n : Nat} {fits : Bool} (h : PowI A sq out n fits) (hb : 4000 < nDigits (out * sq)) : 4000 < nDigits A :=
 Nat.lt_of_lt_of_le hb (nDigits_mono h.sq_le)
theorem PowI.done {A sq out n : Nat} {fits : Bool} (h : PowI A sq out n fits) (hn : n = 1) : out * sq = A := by
 rw [← h.eq, hn, Nat.pow_one]
theorem sq_len {sq : Nat} (h : (limbs sq).length ≤ 100000) : (limbs (sq * sq)).length ≤ 200000 := by
 have := limbs_mul h h
 omega
theorem PowI.odd {A sq out n : Nat} {fits : Bool} (h : PowI A sq out n fits) (hf : fits = true) (ho : n % 2 = 1) (hs : nDigits (out * sq) ≤ 4000) (h2 : 1 ≤ n / 2) : PowI A (sq * sq) (out * sq) (n / 2) (decide (nDigits (sq * sq) ≤ 4000)) := by
 have h4 := Nat.mul_le_mul h.two h.two
 refine ⟨?_, by omega, h2, hs, fun e => ?_, fun e => ?_, sq_len (h.len hf), Nat.mul_pos h.pos (by have := h.two; omega)⟩
 ·rw [← h.eq, Nat.mul_assoc, ← Nat.pow_two, ← Nat.pow_mul]
  have : sq * sq ^ (2 * (n / 2)) = sq ^ n := by
   rw [← Nat.pow_succ']
   congr 1
   omega
  rw [this]
 ·have := of_decide_eq_false e; omega
 ·have := limbs_of_digits (of_decide_eq_true e); omega
theorem PowI.even {A sq out n : Nat} {fits : Bool} (h : PowI A sq out n fits) (hf : fits = true) (ho : n % 2 = 0) : PowI A (sq * sq) out (n / 2) (decide (nDigits (sq * sq) ≤ 4000)) := by
 have h4 := Nat.mul_le_mul h.two h.two
 have h1 := h.n1
 refine ⟨?_, by omega, by omega, h.small, fun e => ?_, fun e => ?_, sq_len (h.len hf), h.pos⟩
 ·rw [← h.eq, ← Nat.pow_two, ← Nat.pow_mul]
  congr 2
  omega
 ·have := of_decide_eq_false e; omega
 ·have := limbs_of_digits (of_decide_eq_true e); omega
def RetPowU (n : Nat) (e : Ending) (w' : World) : Prop :=
 (nDigits n ≤ 4000 ∧ ∃ v, e = .returned (.tuple #[v, .bool true]) ∧ IsN .u64 w' v n) ∨ (4000 < nDigits n ∧ e = .returned (.tuple #[.slice none 0 0, .bool false]))
theorem isN_oneU (w : World) : IsN .u64 (w.alloc (.cells #[.int .u64 1] 151)) (.slice (some ⟨w.heap.size, 0, none⟩) 1 1) 1 := by
 unfold IsN
 rw [limbs_one]
 exact Row.of_blk (b := w.heap.size) (n := 1) (c := 1) (cs := #[.int .u64 1]) (Blk.new w _ _) rfl (by unfold maxLen; omega) (fun i x hx => by simpa [ints] using hx) (Nat.le_refl _) (by unfold maxLen; omega)
theorem odd_test {n : Nat} (h : n < 18446744073709551616) : (bits BinOp.and IntKind.u64 (n : Int) 1 == 1) = decide (n % 2 = 1) := by
 rw [and_one_u64 _ (by omega) (by omega), Bool.eq_iff_iff, beq_iff_eq, decide_eq_true_eq]
 omega
theorem l_Pow_zero (w : World) (v : Value) (a : Nat) (ha : IsN .u64 w v a) : Calls Tryz.prog 136 #[v, .int .u64 0, .int .i64 4000] w fun e w' => RetPowU (a ^ 0) e w' ∧ Below w.heap.size w w' := by
 have H1 := hid (isN_oneU (w.alloc (.cells #[.int .i64 4000] 3)))
 go_enter Tryz.func136, Tryz.ntmps136
 go_wp2_with fail
 go_ret2
 refine ⟨.inl ⟨by rw [Nat.pow_zero, nDigits_one]; omega, _, rfl, by rw [Nat.pow_zero]; simpa using H1.out⟩, ((Below.refl _ _).alloc (Nat.le_refl _) _).alloc (by simp) _⟩
theorem l_Pow_small (w : World) (v : Value) (a n : Nat) (ha : IsN .u64 w v a) (hs : a ≤ 1) (hn : 0 < n) (hn2 : n < 18446744073709551616) : Calls Tryz.prog 136 #[v, .int .u64 n, .int .i64 4000] w fun e w' => RetPowU (a ^ n) e w' ∧ Below w.heap.size w w' := by
 have hpow := hid (show a ^ n = a ∧ nDigits a ≤ 4000 from by
  rcases (show a = 0 ∨ a = 1 by omega) with rfl | rfl
  ·exact ⟨Nat.zero_pow hn, by rw [nDigits_zero]; omega⟩
  ·exact ⟨Nat.one_pow _, by rw [nDigits_one]; omega⟩)
 have b0 := hid ((Below.refl w.heap.size w).alloc (Nat.le_refl _) (.cells #[.int .i64 4000] 3))
 have A0 := hid (ha.call b0.out)
 have q0 : ((n : Int) == 0) = false := by rw [beq_eq_false_iff_ne]; omega
 obtain ⟨k1, d1, rfl, _⟩ := ha.openI
 obtain ⟨len, hlen⟩ : ∃ k, (limbs a).length = k := ⟨_, rfl⟩
 rw [hlen] at A0 ⊢
 clear ha hlen
 rcases (show a = 0 ∨ a = 1 by omega) with rfl | rfl
 ·have hz : isZ 0 = true := rfl
  clear hs hn hn2
  go_enter Tryz.func136, Tryz.ntmps136
  go_wp2_with fail
  refine (l_Zero _ _ _ A0.out).mono ?_; rintro e w1 ⟨rfl, rfl⟩
  rw [hz]
  go_wp2_with fail
  go_ret2
  exact ⟨.inl ⟨by rw [hpow.out.1]; exact hpow.out.2, _, rfl, by rw [hpow.out.1]; exact A0.out⟩, b0.out⟩
 ·have hz : isZ 1 = false := rfl
  have ho : isO 1 = true := rfl
  clear hs hn hn2
  go_enter Tryz.func136, Tryz.ntmps136
  go_wp2_with fail
  refine (l_Zero _ _ _ A0.out).mono ?_; rintro e w1 ⟨rfl, rfl⟩
  rw [hz]
  go_wp2_with fail
  refine (l_One _ _ _ A0.out).mono ?_; rintro e w1 ⟨rfl, rfl⟩
  rw [ho]
  go_wp2_with fail
  go_ret2
  exact ⟨.inl ⟨by rw [hpow.out.1]; exact hpow.out.2, _, rfl, by rw [hpow.out.1]; exact A0.out⟩, b0.out⟩
theorem l_Pow_big (w : World) (v : Value) (a N : Nat) (ha : IsN .u64 w v a) (hs : 2 ≤ a) (hl : (limbs a).length ≤ 100000) (hn : 0 < N) (hn2 : N < 18446744073709551616) (hL : Lay w) : Calls Tryz.prog 136 #[v, .int .u64 N, .int .i64 4000] w fun e w' => RetPowU (a ^ N) e w' ∧ Below w.heap.size w w' := by
 have b0 := hid ((Below.refl w.heap.size w).alloc (Nat.le_refl _) (.cells #[.int .i64 4000] 3))
 have A0 := hid (ha.call b0.out); have HA := hid ha
 have q0 : ((N : Int) == 0) = false := by rw [beq_eq_false_iff_ne]; omega
 obtain ⟨k1, d1, rfl, _⟩ := ha.openI
 obtain ⟨len, hlen⟩ : ∃ k, (limbs a).length = k := ⟨_, rfl⟩
 have PI := hid (PowI.start (n := N) hs hn hl)
 rw [hlen] at A0 HA ⊢
 have hz : isZ a = false := decide_eq_false (by omega)
 have ho : isO a = false := decide_eq_false (by omega)
 have HN2 := hid hn2; have HL := hid hL; have HLL := hid hL.lt
 obtain ⟨R, hR⟩ : ∃ R, a ^ N = R := ⟨_, rfl⟩
 rw [hR] at PI ⊢
 clear ha hlen hs hl hn hn2 hL hR
 go_enter Tryz.func136, Tryz.ntmps136
 go_wp2_with fail
 refine (l_Zero _ _ _ A0.out).mono ?_; rintro e w1 ⟨rfl, rfl⟩
 rw [hz]
 clear hz
 go_wp2_with fail
 refine (l_One _ _ _ A0.out).mono ?_; rintro e w1 ⟨rfl, rfl⟩
 rw [ho]
 clear ho
 go_wp2_with fail
 obtain ⟨W0, hW0⟩ : ∃ W0, ((((w.alloc (.cells #[.int .i64 4000] 3)).alloc (.cells #[.int .u64 1] 151)).alloc (.cells #[.slice k1 len d1] 92)).alloc (.cells #[.bool true] 4)) = W0 := ⟨_, rfl⟩
 have b4 : Below w.heap.size w W0 := by rw [← hW0]; exact ((((Below.refl _ _).alloc (Nat.le_refl _) _).alloc (by simp) _).alloc (by simp <;> omega) _).alloc (by simp <;> omega) _
 have x0 : Blk W0 w.heap.size #[.int .i64 4000] 3 := by rw [← hW0]; exact (((Blk.new w _ _).alloc _).alloc _).alloc _
 have x1 : Blk W0 (w.heap.size + 1) #[.int .u64 1] 151 := by rw [← hW0]; exact ((Blk.made _ _ _ (by simp)).alloc _).alloc _
 have x2 : Blk W0 (w.heap.size + 1 + 1) #[.slice k1 len d1] 92 := by rw [← hW0]; exact (Blk.made _ _ _ (by simp)).alloc _
 have x3 : Blk W0 (w.heap.size + 1 + 1 + 1) #[.bool true] 4 := by rw [← hW0]; exact Blk.made _ _ _ (by simp)
 have o0 : IsN .u64 W0 (.slice (some ⟨w.heap.size + 1, 0, none⟩) 1 1) 1 := by
  unfold IsN
  rw [limbs_one]
  exact Row.of_blk (n := 1) (c := 1) x1 rfl (by unfold maxLen; omega) (fun i x hx => by simpa [ints] using hx) (Nat.le_refl _) (by unfold maxLen; omega)
 have P0 : PowS W0 (w.heap.size + 1 + 1) (w.heap.size + 1 + 1 + 1) w.heap.size a true := ⟨⟨_, _, _, x2, HA.out.call b4⟩, x3, x0, by omega, by omega, by omega⟩
 rw [hW0]
 have OO := hid o0; have PP := hid P0; have BB := hid b4
 obtain ⟨bs, hbs⟩ : ∃ b, w.heap.size + 1 + 1 = b := ⟨_, rfl⟩
 rw [hbs] at PP ⊢
 obtain ⟨bf, hbf⟩ : ∃ b, bs + 1 = b := ⟨_, rfl⟩
 rw [hbf] at PP ⊢
 have HBS := hid (show w.heap.size ≤ bs by omega); have HBF := hid (show w.heap.size ≤ bf by omega)
 have e159 : ∀ args w, (callFunc 201 args).run Tryz.prog w = .ok (.enter 201 args) w := enters_of Tryz.func201 (by kernel_rfl) rfl
 clear b4 x0 x1 x2 x3 o0 P0 hW0 hbs hbf A0 b0 q0
 go_loopw [1, 8] (fun nn oo wr => ∃ (n out sq : Nat) (fits : Bool) (a1 : Option Addr) (l1 c1 : Nat), nn = .int .u64 (n : Nat) ∧ oo = .slice a1 l1 c1 ∧ Hid (PowI R sq out n fits) ∧ Hid (IsN .u64 wr (.slice a1 l1 c1) out) ∧ Hid (PowS wr bs bf w.heap.size sq fits) ∧ Hid (Below w.heap.size w wr) ∧ n < 18446744073709551616) (fun nn oo wr => (intOf nn).toNat)
 case atStart => exact ⟨N, 1, a, true, _, _, _, rfl, rfl, PI.out, OO.out, PP.out, BB.out, HN2.out⟩
 case round =>
  obtain ⟨n, out, sq, fits, a1, l1, c1, rfl, rfl, hI, hO, hS, hB, hn⟩ := hrel
  obtain ⟨a2, l2, c2, h1, h2⟩ := hS.out.sq
  have HL1 := hid (HL.out.call hB.out)
  have HO := hid h1; have HV := hid h2; have HF := hid hS.out.fits; have HT := hid hS.out.lim
  have k0 : wr.cell? ⟨bs, 0, none⟩ = some (.slice a2 l2 c2) := h1.cell 0
  have k1 : wr.cell? ⟨bf, 0, none⟩ = some (.bool fits) := hS.out.fits.cell 0
  have k2 : wr.cell? ⟨w.heap.size, 0, none⟩ = some (.int .i64 4000) := hS.out.lim.cell 0
  have HN := hid hn; have HN1 := hid hI.out.n1
  have HLO := hid (limbs_of_digits hI.out.small); have HLS := hid hI.out.lim
  clear h1 h2
  by_cases ho : n % 2 = 1
  ·have q1 : (bits BinOp.and IntKind.u64 (n : Int) 1 == 1) = true := by rw [odd_test hn]; exact decide_eq_true ho
   have HO1 := hid ho
   clear ho hn
   go_wp2_with fail
   refine (l_Mul _ _ _ out sq hO.out HV.out (by have := HLO.out; omega) (by have := HLS.out; omega)).mono ?_; rintro e w1 ⟨⟨v1, rfl, hv1⟩, hb1⟩
   have HLM := hid (limbs_mul HLO.out HLS.out)
   obtain ⟨a3, c3, rfl, _⟩ := hv1.openI
   obtain ⟨l3, hl3⟩ : ∃ l, (limbs (out * sq)).length = l := ⟨_, rfl⟩
   rw [hl3] at hv1 ⊢
   have V1 := hid hv1; have F1 := hid (HF.out.call hb1); have T1 := hid (HT.out.call hb1); have B1 := hid (bnext hB.out hb1)
   have S1 : Hid (PowS w1 bs bf w.heap.size sq fits) := ⟨⟨_, _, _, HO.out.call hb1, HV.out.call hb1⟩, F1.out, T1.out, hS.out.n1, hS.out.n2, hS.out.n3⟩
   have m1 : w1.cell? ⟨bf, 0, none⟩ = some (.bool fits) := F1.out.cell 0
   have m2 : w1.cell? ⟨w.heap.size, 0, none⟩ = some (.int .i64 4000) := T1.out.cell 0
   have L1 := hid (HL1.out.call hb1); have B1x := hid hb1
   clear hb1 hv1 k0 k1 k2 hl3
   cases fits
   ·go_wp2_with fail
    go_quiet (fail)
    go_wp2_with fail
    go_ret2
    exact ⟨.inr ⟨hI.out.big rfl, rfl⟩, below_drewN B1.out _⟩
   ·go_wp2_with fail
    go_region_held3 (fun w' => w'.cell? ⟨bf, 0, none⟩ = some (.bool true) ∧ w'.cell? ⟨w.heap.size, 0, none⟩ = some (.int .i64 4000))
     (first | exact ⟨m1, m2⟩ | exact ⟨F2.out.cell 0, T2.out.cell 0⟩)
     (first
      | (go_at_call 127; refine (l_Digits _ _ (out * sq) (V1.out.call (Below.refl _ _).drew) (L1.out.call (Below.refl _ _).drew) (by have := HLM.out; omega)).mono ?_; rintro e w2 ⟨rfl, hb2⟩; have B2 := hid (show Below w1.heap.size w1 w2 from (Below.refl _ _).drew.trans hb2); have F2 := hid (F1.out.call B2.out); have T2 := hid (T1.out.call B2.out)))
    have S2 : Hid (PowS w2 bs bf w.heap.size sq true) := ⟨⟨_, _, _, (HO.out.call B1x.out).call B2.out, (HV.out.call B1x.out).call B2.out⟩, F2.out, T2.out, hS.out.n1, hS.out.n2, hS.out.n3⟩
    have V2 := hid (V1.out.call B2.out); have L2 := hid (L1.out.call B2.out); have BB2 := hid (bnext B1.out B2.out)
    clear m1 m2
    by_cases hd : 4000 < nDigits (out * sq)
    ·have q2 : decide ((4000 : Int) < (nDigits (out * sq) : Nat)) = true := by simp; omega
     have HD := hid hd
     rw [q2]
     clear hd q2
     go_wp2_with fail
     go_ret2
     exact ⟨.inr ⟨hI.out.bigO HD.out, rfl⟩, BB2.out⟩
    ·have q2 : decide ((4000 : Int) < (nDigits (out * sq) : Nat)) = false := by simp; omega
     have HD := hid (show nDigits (out * sq) ≤ 4000 by omega)
     rw [q2]
     clear hd q2
     have m1 : w2.cell? ⟨bf, 0, none⟩ = some (.bool true) := F2.out.cell 0
     by_cases h1 : n = 1
     ·have HD1 := hid (hI.out.done h1)
      subst h1
      go_wp2_with fail
      go_ret2
      exact ⟨.inl ⟨by rw [← HD1.out]; exact HD.out, _, rfl, by rw [← HD1.out]; exact V2.out⟩, BB2.out⟩
     ·have h2 : 1 ≤ n / 2 := by have := HO1.out; omega
      have HN2' := hid h2
      have q3 : ((n : Int) / 2 == 0) = false := by rw [beq_eq_false_iff_ne]; omega
      have HI2 := hid (hI.out.odd rfl HO1.out HD.out h2)
      clear h1 h2
      go_wp2_with fail
      refine (l_Pow1 _ bs bf w.heap.size sq w.heap.size true S2.out HBS.out HBF.out BB2.out.size (hI.out.len rfl) L2.out HLL.out).mono ?_; rintro e w5 ⟨⟨v5, rfl⟩, hp5, hk5, hb5⟩
      have P5 := hid hp5; have O5 := hid (hk5 _ _ _ V2.out); have B5 := hid (BB2.out.trans hb5)
      clear hp5 hk5 hb5
      go_wp2_with fail
      go_roundw
      case rel => exact ⟨n / 2, out * sq, sq * sq, _, _, _, _, by rw [show ((n : Int) / 2) = ((n / 2 : Nat) : Int) by omega], rfl, HI2, O5, P5, B5, by have := HN.out; omega⟩
      case measure => simp [intOf] <;> (have := HN1.out; omega)
  ·have q1 : (bits BinOp.and IntKind.u64 (n : Int) 1 == 1) = false := by rw [odd_test hn]; exact decide_eq_false ho
   have h0 : n % 2 = 0 := by omega
   have h2 : 1 ≤ n / 2 := by have := HN1.out; omega
   have q3 : ((n : Int) / 2 == 0) = false := by rw [beq_eq_false_iff_ne]; omega
   have H0 := hid h0
   clear ho hn h0 h2
   cases fits
   ·go_wp2_with fail
    go_ret2
    exact ⟨.inr ⟨hI.out.big rfl, rfl⟩, hB.out⟩
   ·have HI2 := hid (hI.out.even rfl H0.out)
    go_wp2_with fail
    refine (l_Pow1 _ bs bf w.heap.size sq w.heap.size true hS.out HBS.out HBF.out hB.out.size (hI.out.len rfl) HL1.out HLL.out).mono ?_; rintro e w5 ⟨⟨v5, rfl⟩, hp5, hk5, hb5⟩
    have P5 := hid hp5; have O5 := hid (hk5 _ _ _ hO.out); have B5 := hid (hB.out.trans hb5)
    clear hp5 hk5 hb5
    go_wp2_with fail
    go_roundw
    case rel => exact ⟨n / 2, out, sq * sq, _, _, _, _, by rw [show ((n : Int) / 2) = ((n / 2 : Nat) : Int) by omega], rfl, HI2, O5, P5, B5, by have := HN.out; omega⟩
    case measure => simp [intOf] <;> (have := HN1.out; omega)
theorem l_Pow (w : World) (v : Value) (a n : Nat) (ha : IsN .u64 w v a) (hl : (limbs a).length ≤ 100000) (hn2 : n < 18446744073709551616) (hL : Lay w) : Calls Tryz.prog 136 #[v, .int .u64 n, .int .i64 4000] w fun e w' => RetPowU (a ^ n) e w' ∧ Below w.heap.size w w' := by
 rcases Nat.eq_zero_or_pos n with rfl | hn
 ·exact l_Pow_zero w v a ha
 ·by_cases h : a ≤ 1
  ·exact l_Pow_small w v a n ha h hn hn2
  ·exact l_Pow_big w v a n ha (by omega) hl hn hn2 hL
theorem n_Pow_ok (w : World) (s : ByteArray) (n : Nat) (hs : errN s.data.toList = 0) (hn : n ≤ 9223372036854775807) (hd : nDigits (bN s ^ n) ≤ 4000) (hL : Lay w) :
 Calls Tryz.prog 261 #[.string s, .int .i64 n] w fun e w' => e = .returned (.tuple #[.string (numB (bN s ^ n)), .int .i64 0]) ∧ Below w.heap.size w w' := by
 obtain ⟨d1, d2, d3⟩ := errN_dig hs
 have HC := fun V => hid (n_Check V s (by omega))
 rw [hs] at HC
 have HP := fun V => hid (l_Parse V s d1 (by omega))
 have hdv : dv s.data.toList = bN s := rfl
 rw [hdv] at HP
 have HW := fun V v hv hL => hid (l_Pow V v (bN s) n hv (by omega) (by omega) hL)
 have HR := fun V v hv hL => hid (n_result V v (bN s ^ n) hv (by have := limbs_of_digits hd; omega) hL)
 have e1 : resB (bN s ^ n) = numB (bN s ^ n) := by rw [resB, if_neg (by omega)]
 have e2 : resE (bN s ^ n) = 0 := by rw [resE, if_neg (by omega)]
 rw [e1, e2] at HR
 obtain ⟨R, hR⟩ : ∃ R, bN s ^ n = R := ⟨_, rfl⟩
 rw [hR] at HW HR hd ⊢
 have HD := hid hd; have HL := hid hL
 have hn0 : (0 : Int) ≤ (n : Int) := by omega
 have hn1 : (n : Int) ≤ 9223372036854775807 := by omega
 have q0 : decide ((n : Int) < 0) = false := by simp
 clear hs hn d1 d2 d3 hdv e1 e2 hR hd hL
 go_enter Tryz.func261, Tryz.ntmps261
 go_wp2_with fail
 refine (HC _).out.mono ?_; rintro e w1 ⟨rfl, hb1⟩
 have b1 := hid hb1; clear hb1
 go_wp2_with fail
 refine (HP _).out.mono ?_; rintro e w2 ⟨⟨v2, rfl, hv2⟩, hb2⟩
 have b2 := hid (bnext b1.out hb2); have V2 := hid hv2; clear hb2 hv2
 go_wp2_with fail
 refine (HW _ _ V2.out (HL.out.call b2.out)).out.mono ?_
 rintro e w3 ⟨h3, hb3⟩
 rcases h3 with ⟨-, v3, rfl, hv3⟩ | ⟨h3, -⟩
 ·have b3 := hid (bnext b2.out hb3); have V3 := hid hv3; clear hb3 hv3
  go_wp2_with fail
  refine (HR _ _ V3.out (HL.out.call b3.out)).out.mono ?_; rintro e w4 ⟨rfl, hb4⟩
  have b4 := hid (bnext b3.out hb4); clear hb4
  go_wp2_with fail
  go_ret2
  exact ⟨rfl, b4.out⟩
 ·exact absurd h3 (by have := HD.out; omega)
theorem two_digits {n : Nat} (h : n ≤ 1000) : nDigits (2 ^ n) ≤ 4000 := by
 have h1 : 2 ^ n < 10 ^ (n + 1) := by
  have h2 : 2 ^ n ≤ 10 ^ n := Nat.pow_le_pow_left (by omega) n
  have h3 : 10 ^ n < 10 ^ (n + 1) := Nat.pow_lt_pow_right (by omega) (by omega)
  omega
 exact Nat.le_trans (nDigits_le (Nat.succ_pos n) h1) (by omega)
theorem bN_two : bN ⟨#[50]⟩ = 2 := by decide
theorem errN_two : errN (⟨#[50]⟩ : ByteArray).data.toList = 0 := by decide
open Go.Shelf
def shB (m t : Nat) : ByteArray := outB (qmk false m t)
theorem pk_make (w : World) (m t : Nat) (hm : nDigits m ≤ 4000) (ht : nDigits t ≤ 4000) (h0 : t ≠ 0) (hL : Lay w) :
 Calls Tryz.prog 210 #[.string (numB m), .string (numB t)] w fun e w' => e = .returned (.tuple #[.string (shB m t), .int .i64 (outE (qmk false m t))]) ∧ Below w.heap.size w w' := by
 have h := q_Make w (numB m) (numB t) (numB_sz hm) (numB_sz ht) hL
 have e := mk_num hm ht h0
 rwa [e.1, e.2] at h
structure MRow (w : World) (v : Value) (L : List (ByteArray × ByteArray)) : Prop where
 ex : ∃ a c, v = .slice a L.length c ∧ L.length ≤ c ∧ c ≤ 9223372036854775807 ∧ ∀ (i : Nat) (x : ByteArray × ByteArray), L[i]? = some x → ∃ g o, a = some ⟨g, o, none⟩ ∧ g < w.heap.size ∧ w.cell? ⟨g, o + 2 * i, none⟩ = some (.string x.1) ∧ w.cell? ⟨g, o + 2 * i + 1, none⟩ = some (.string x.2)
theorem MRow.call {w w' : World} {v : Value} {L : List (ByteArray × ByteArray)} (h : MRow w v L) (hb : Below w.heap.size w w') : MRow w' v L := by
 obtain ⟨a, c, rfl, h1, h2, h3⟩ := h.ex
 refine ⟨a, c, rfl, h1, h2, fun i x hx => ?_⟩
 obtain ⟨g, o, rfl, hg, k1, k2⟩ := h3 i x hx
 exact ⟨g, o, rfl, Nat.lt_of_lt_of_le hg hb.size, (hb.cell (p := ⟨g, o + 2 * i, none⟩) hg).trans k1, (hb.cell (p := ⟨g, o + 2 * i + 1, none⟩) hg).trans k2⟩
theorem MRow.nil (w : World) : MRow w (.slice none 0 0) [] := ⟨none, 0, rfl, Nat.le_refl _, by omega, fun i x h => by simp at h⟩
theorem ne_tl {x y : ByteArray} (h : ¬ x = y) : ¬ x.toList = y.toList := fun e => h (by
 rw [Lib.toList_data, Lib.toList_data] at e
 exact ba_ext e)
theorem k_SameM (w : World) (v u : Value) (L M : List (ByteArray × ByteArray)) (hv : MRow w v L) (hu : MRow w u M) :
 Calls Tryz.prog 30 #[v, u] w fun e w' => e = .returned (.bool (decide (L = M))) ∧ Below w.heap.size w w' := by
 obtain ⟨a, c, rfl, h1, h2, h3⟩ := hv.ex
 obtain ⟨a', c', rfl, h1', h2', h3'⟩ := hu.ex
 obtain ⟨n, hn⟩ : ∃ n, L.length = n := ⟨_, rfl⟩
 obtain ⟨m, hm⟩ : ∃ n, M.length = n := ⟨_, rfl⟩
 rw [hn] at h1 ⊢
 rw [hm] at h1' ⊢
 have H3 := hid h3; have H3' := hid h3'; have HN := hid hn; have HM := hid hm
 clear hv hu h3 h3'
 by_cases hnm : n = m
 ·subst hnm
  have q0 : ((n : Int) != (n : Int)) = false := by simp
  clear hn hm
  go_enter Tryz.func30, Tryz.ntmps30
  go_wp2_with fail
  go_loopw [5] (fun ii wr => ∃ i : Nat, ii = .int .i64 (i : Nat) ∧ i ≤ n ∧ Hid (∀ j, j < i → L[j]? = M[j]?) ∧ Hid (Below w.heap.size w wr)) (fun ii wr => n - (intOf ii).toNat)
  case atStart => exact ⟨0, rfl, Nat.zero_le _, fun j hj => absurd hj (by omega), Below.refl _ _⟩
  case round =>
   obtain ⟨i, rfl, hi, hI, hB⟩ := hrel
   by_cases hlt : i < n
   ·obtain ⟨x, hx⟩ : ∃ x, L[i]? = some x := ⟨_, List.getElem?_eq_getElem (by rw [HN.out]; exact hlt)⟩
    obtain ⟨y, hy⟩ : ∃ x, M[i]? = some x := ⟨_, List.getElem?_eq_getElem (by rw [HM.out]; exact hlt)⟩
    obtain ⟨g, o, rfl, hg, k1, k2⟩ := H3.out i x hx
    obtain ⟨g', o', rfl, hg', k1', k2'⟩ := H3'.out i y hy
    obtain ⟨x1, x2⟩ := x
    obtain ⟨y1, y2⟩ := y
    have HX := hid hx; have HY := hid hy
    have m1 := (hB.out.cell (p := ⟨g, o + 2 * i, none⟩) hg).trans k1
    have m2 := (hB.out.cell (p := ⟨g, o + 2 * i + 1, none⟩) hg).trans k2
    have m3 := (hB.out.cell (p := ⟨g', o' + 2 * i, none⟩) hg').trans k1'
    have m4 := (hB.out.cell (p := ⟨g', o' + 2 * i + 1, none⟩) hg').trans k2'
    dsimp only at m1 m2 m3 m4
    rw [Nat.mul_comm 2 i] at m1 m2 m3 m4
    have b1 : (0 : Int) ≤ (i : Int) := by omega
    have b2 : (i : Int) < (n : Int) := by omega
    have wi : IntKind.i64.wrap ((i : Int) + 1) = (i : Int) + 1 := by rw [IntWalk.i64_in _ ⟨by omega, by omega⟩]
    clear k1 k2 k1' k2' hx hy hg hg'
    by_cases he1 : x1 = y1
    ·subst he1
     by_cases he2 : x2 = y2
     ·subst he2
      go_wp2_with fail
      refine held_plain [0, 1, 2, 3, 4, 5, 6, 7, 8] 0 (fun w' => w'.cell? ⟨g, o + i * 2, none⟩ = some (.string x1) ∧ w'.cell? ⟨g, o + i * 2 + 1, none⟩ = some (.string x2) ∧ w'.cell? ⟨g', o' + i * 2, none⟩ = some (.string x1) ∧ w'.cell? ⟨g', o' + i * 2 + 1, none⟩ = some (.string x2)) (by kernel_rfl) (by kernel_rfl) (by kernel_rfl) (by kernel_rfl) ⟨m1, m2, m3, m4⟩ ?_
      iterate 9
       refine ⟨_, rfl, ?_⟩
       apply Exists.intro
       refine ⟨.inl ⟨by rfl, ?_⟩, ?_⟩
       ·(intro W' hW'; obtain ⟨q1, q2, q3, q4⟩ := hW'; go_simp; try (with_reducible rfl))
       (dsimp only [Act.put]; try simp only [List.setIfInBounds_toArray, List.set_cons_zero, List.set_cons_succ])
      refine wpAnyH_done (by kernel_rfl) ?_ _
      simp only [Only]
      go_wp2_with fail
      go_roundw
      case rel => exact ⟨i + 1, rfl, by omega, fun j hj => by
       rcases Nat.lt_or_ge j i with h | h
       ·exact hI.out j h
       ·obtain rfl : j = i := by omega
        rw [HX.out, HY.out], hB.out.drew⟩
      case measure => simp [intOf] <;> omega
     ·have n2 := ne_tl he2
      have hne : decide (L = M) = false := by
       rw [decide_eq_false_iff_not]; rintro rfl
       have := HX.out.symm.trans HY.out
       simp only [Option.some.injEq, Prod.mk.injEq] at this
       exact he2 this.2
      have HNE := hid hne
      clear hne he2
      go_wp2_with fail
      refine held_plain [0, 1, 2, 3, 4, 5, 6, 7, 8] 0 (fun w' => w'.cell? ⟨g, o + i * 2, none⟩ = some (.string x1) ∧ w'.cell? ⟨g, o + i * 2 + 1, none⟩ = some (.string x2) ∧ w'.cell? ⟨g', o' + i * 2, none⟩ = some (.string x1) ∧ w'.cell? ⟨g', o' + i * 2 + 1, none⟩ = some (.string y2)) (by kernel_rfl) (by kernel_rfl) (by kernel_rfl) (by kernel_rfl) ⟨m1, m2, m3, m4⟩ ?_
      iterate 9
       refine ⟨_, rfl, ?_⟩
       apply Exists.intro
       refine ⟨.inl ⟨by rfl, ?_⟩, ?_⟩
       ·(intro W' hW'; obtain ⟨q1, q2, q3, q4⟩ := hW'; go_simp; try (with_reducible rfl))
       (dsimp only [Act.put]; try simp only [List.setIfInBounds_toArray, List.set_cons_zero, List.set_cons_succ])
      refine wpAnyH_done (by kernel_rfl) ?_ _
      simp only [Only]
      go_wp2_with fail
      go_ret
      exact ⟨by rw [HNE.out]; rfl, hB.out.drew⟩
    ·have n1 := ne_tl he1
     have hne : decide (L = M) = false := by
      rw [decide_eq_false_iff_not]; rintro rfl
      have := HX.out.symm.trans HY.out
      simp only [Option.some.injEq, Prod.mk.injEq] at this
      exact he1 this.1
     have HNE := hid hne
     clear hne he1
     go_wp2_with fail
     refine held_plain [0, 1, 2, 3, 4, 5, 6, 7, 8] 0 (fun w' => w'.cell? ⟨g, o + i * 2, none⟩ = some (.string x1) ∧ w'.cell? ⟨g, o + i * 2 + 1, none⟩ = some (.string x2) ∧ w'.cell? ⟨g', o' + i * 2, none⟩ = some (.string y1) ∧ w'.cell? ⟨g', o' + i * 2 + 1, none⟩ = some (.string y2)) (by kernel_rfl) (by kernel_rfl) (by kernel_rfl) (by kernel_rfl) ⟨m1, m2, m3, m4⟩ ?_
     iterate 9
      refine ⟨_, rfl, ?_⟩
      apply Exists.intro
      refine ⟨.inl ⟨by rfl, ?_⟩, ?_⟩
      ·(intro W' hW'; obtain ⟨q1, q2, q3, q4⟩ := hW'; go_simp; try (with_reducible rfl))
      (dsimp only [Act.put]; try simp only [List.setIfInBounds_toArray, List.set_cons_zero, List.set_cons_succ])
     refine wpAnyH_done (by kernel_rfl) ?_ _
     simp only [Only]
     go_wp2_with fail
     go_ret
     exact ⟨by rw [HNE.out]; rfl, hB.out.drew⟩
   ·obtain rfl : i = n := by omega
    have hE : L = M := by
     apply List.ext_getElem?
     intro j
     by_cases hj : j < i
     ·exact hI.out j hj
     ·rw [List.getElem?_eq_none (by rw [HN.out]; omega), List.getElem?_eq_none (by rw [HM.out]; omega)]
    have HE := hid hE
    have q1 : decide ((i : Int) < (i : Int)) = false := by simp
    clear hlt hE
    go_wp2_with fail
    go_ret
    exact ⟨by rw [decide_eq_true HE.out]; rfl, hB.out⟩
 ·have q0 : ((n : Int) != (m : Int)) = true := by rw [bne_iff_ne]; omega
  have hne : decide (L = M) = false := by
   rw [decide_eq_false_iff_not]; rintro rfl; exact hnm (hn.symm.trans hm)
  have HNE := hid hne
  clear hne hnm hn hm
  go_enter Tryz.func30, Tryz.ntmps30
  go_wp2_with fail
  go_ret
  exact ⟨by rw [HNE.out]; rfl, Below.refl _ _⟩
open Go.Maps
attribute [local go_sem] Oper.semAt_some
def lateB : ByteArray := ⟨#[108, 97, 116, 101]⟩
theorem outB_size (q : Rat) : (outB q).size ≤ 10000 := by
 unfold outB
 split
 ·exact (by decide : (0 : Nat) ≤ 10000)
 ·rename_i h
  unfold ovQ at h
  have h1 := list_size (txQ q)
  unfold txQ at h1 ⊢
  rw [txB_list] at h1
  rw [← h1]
  simp only [List.length_append, Lib.decDigits_length]
  have e1 : (if decide (q.num < 0) = true then [45] else ([] : List UInt8)).length ≤ 1 := by split <;> simp
  have e2 : (if q.den = 1 then [] else (47 : UInt8) :: decDigits q.den).length ≤ 4001 := by
   split
   ·simp
   ·simp only [List.length_cons, Lib.decDigits_length]; omega
  omega
end Go.Proofs.YtlmnpocifldpmaaGreatDoor
namespace Go.Proofs.YtlmnpocifldpmaaGreatDoor
open Go.RowKit
open Go.Shelf
open Go.Lib (decDigits nDigits)
def LayS (w : World) : Prop := ∃ ev, w.cell? ⟨0, 0, none⟩ = some ev ∧ (ev = .nilIface ∨ ∃ te pe, ev = .iface te pe)
theorem LayS.call {w w' : World} (h : LayS w) (hb : Below w.heap.size w w') : LayS w' := by
 obtain ⟨ev, h1, h2⟩ := h
 exact ⟨ev, (hb.cell (World.block_lt_of_cell? w _ h1)).trans h1, h2⟩
structure LayB (w : World) : Prop where
 l : Lay w
 s : LayS w
theorem LayB.call {w w' : World} (h : LayB w) (hb : Below w.heap.size w w') : LayB w' := ⟨h.l.call hb, h.s.call hb⟩
theorem b_AtoiL (w : World) (h : LayS w) :
 Calls Tryz.prog 94 #[.string lateB] w fun e w' => (∃ te pe, e = .returned (.tuple #[.int .i64 0, .iface te pe])) ∧ Below w.heap.size w w' := by
 obtain ⟨ev, h1, h2⟩ := h
 have := Any.strconv_Atoi_err Tryz.laysC172 lateB (by decide) (by decide) ev w h1 h2
 change Calls Tryz.prog 94 _ _ _ at this
 refine this.mono ?_
 rintro e w' ⟨N, rfl, -, -, hb⟩
 exact ⟨⟨_, _, rfl⟩, hb⟩
end Go.Proofs.YtlmnpocifldpmaaGreatDoor
namespace Go.Proofs.YtlmnpocifldpmaaGreatDoor
open Go.ChangeShapes
open Go.WideShapes
open Go.ChangeAt
open Go.RowKit
theorem trod_iface {H : Type} {enc : TypeId × Value → H} {P : Program} {w : World} {b0 : Nat} {sp : Nat → Bool} {held : Bool} {fuel : Nat} {t : TypeId} {cs : List Value} {d : DataW H} {p : List MemPlace} {ms} (ht : P.underlying t = some (.interface ms)) (h : DataW.trod enc P w b0 sp held fuel t cs = some (d, p)) : cs = [.nilIface] ∨ ∃ u v, cs = [.iface u v] := by
 cases fuel with
 | zero => simp [DataW.trod] at h
 | succ n =>
  rcases cs with _ | ⟨a, _ | ⟨b, r⟩⟩
  ·simp [DataW.trod, ht] at h
  ·cases a <;> simp [DataW.trod, ht] at h
   ·exact .inr ⟨_, _, rfl⟩
   ·exact .inl rfl
  ·simp [DataW.trod, ht] at h
theorem syntax_at : Tryz.prog.globalNamed "strconv.ErrSyntax" = some 0 := by kernel_rfl
theorem syntax_type : (Tryz.prog.globals[0]?).map (·.type) = some 122 := by kernel_rfl
theorem layB_of {W : World} (h : laidMetH Tryz.prog Rows.sparseCountsRow.laid W) (hsh : W.ShapedOpen Tryz.prog) : LayB W := by
 refine ⟨lay_of h hsh, ?_⟩
 rw [MakeChecks.laidMetH_plain _ _ _ (by kernel_rfl)] at h
 obtain ⟨ps, ⟨g0, t0, cs0, f0, p0, q0, hg0, ht0, hv0, hd0, ⟨g1, t1, cs1, f1, p1, q1, hg1, ht1, hv1, hd1, ⟨g2, t2, cs2, f2, p2, q2, hg2, ht2, hv2, hd2, ⟨g3, t3, cs3, f3, p3, q3, hg3, ht3, hv3, hd3, ⟨g4, t4, cs4, f4, p4, q4, hg4, ht4, hv4, hd4, ⟨g5, t5, cs5, f5, p5, q5, hg5, ht5, hv5, hd5, _, _⟩, _⟩, _⟩, _⟩, _⟩, _⟩, _, _⟩ := h
 obtain rfl := Option.some.inj (syntax_at.symm.trans hg5)
 obtain rfl := Option.some.inj (syntax_type.symm.trans ht5)
 have h1 := trod_iface Tryz.underlying122 hd5
 unfold World.var? at hv5
 rw [syntax_at] at hv5
 simp only [Option.bind_some] at hv5
 split at hv5
 ·rename_i cs t fr ho
  cases hv5
  rcases h1 with h1 | ⟨u, v, h1⟩
  ·have e : cs5 = #[.nilIface] := by cases cs5; simpa using h1
   exact ⟨.nilIface, by simp [World.cell?, ho, e], .inl rfl⟩
  ·have e : cs5 = #[.iface u v] := by cases cs5; simpa using h1
   exact ⟨.iface u v, by simp [World.cell?, ho, e], .inr ⟨_, _, rfl⟩⟩
 ·cases hv5
end Go.Proofs.YtlmnpocifldpmaaGreatDoor
namespace Go.Proofs.YtlmnpocifldpmaaGreatDoor
open Go.RowKit
theorem below_grown {w w' : World} (h : Below w.heap.size w w') (row : Option Nat) : w.grownBy w' row := ⟨h.os, h.tape, h.output, h.size, fun k hk _ => h.block k hk⟩
theorem r1_Order (w : World) (v u : Value) (a b : Nat) (ha : IsN .i64 w v a) (hb : IsN .i64 w u b) :
 Calls Tryz.prog 146 #[v, u] w fun e w' => e = .returned (.int .i64 (ordN a b)) ∧ Below w.heap.size w w' := by
 obtain ⟨a1, c1, rfl, h1, h2, h3⟩ := ha.openI
 obtain ⟨a2, c2, rfl, k1, k2, k3⟩ := hb.openI
 have H3 := hid h3; have K3 := hid k3; clear h3 k3 ha hb
 by_cases hne : (limbs a).length = (limbs b).length
 ·obtain ⟨n, ea⟩ : ∃ n, (limbs a).length = n := ⟨_, rfl⟩
  have eb : (limbs b).length = n := hne.symm.trans ea
  rw [ea] at h1 ⊢
  rw [eb] at k1 ⊢
  have HA := hid ea; have HB := hid eb
  clear hne ea eb
  go_enter Tryz.func146, Tryz.ntmps146
  go_wp2_with fail
  go_loopw [5] (fun i wr => ∃ (k : Nat) (t : Int), k ≤ n ∧ i = .int .i64 t ∧ t = (k : Int) - 1 ∧ Hid ((limbs a).drop k = (limbs b).drop k) ∧ Hid (Below w.heap.size w wr)) (fun i _ => (intOf i + 1).toNat)
  case atStart => exact ⟨n, _, Nat.le_refl _, rfl, rfl, by rw [Hid, List.drop_of_length_le (by rw [HA.out]; exact Nat.le_refl _), List.drop_of_length_le (by rw [HB.out]; exact Nat.le_refl _)], Below.refl _ _⟩
  case round =>
   obtain ⟨k, t, hk, rfl, ht, hd, hB⟩ := hrel
   cases k with
   | zero =>
    obtain rfl : t = -1 := by omega
    clear ht
    go_wp2_with fail
    go_ret
    have : a = b := limbs_inj hd.out
    subst this
    exact ⟨ret_int ordN_eq.symm, hB.out⟩
   | succ k =>
    obtain rfl : t = (k : Int) := by omega
    clear ht
    obtain ⟨x, hx⟩ : ∃ x, (limbs a)[k]? = some x := ⟨_, List.getElem?_eq_getElem (by rw [HA.out]; omega)⟩
    obtain ⟨y, hy⟩ : ∃ y, (limbs b)[k]? = some y := ⟨_, List.getElem?_eq_getElem (by rw [HB.out]; omega)⟩
    obtain ⟨g, o, rfl, hg, hc⟩ := H3.out k x hx
    obtain ⟨g', o', rfl, hg', hc'⟩ := K3.out k y hy
    have d1 := (hB.out.cell (p := ⟨g, o + k, none⟩) hg).trans hc
    have d2 := (hB.out.cell (p := ⟨g', o' + k, none⟩) hg').trans hc'
    have HX := hid hx; have HY := hid hy; clear hx hy hc hc'
    have b1 : (0 : Int) ≤ (k : Int) := by omega
    have b2 : (k : Int) < (n : Int) := by omega
    rcases Nat.lt_trichotomy x y with hlt | heq | hgt
    ·have q1 : decide (x < y) = true := by simpa using hlt
     go_wp2_with fail
     go_quiet (fail)
     go_wp2_with fail
     go_ret
     exact ⟨ret_int (ordN_lt (ord_lt_at (HA.out.trans HB.out.symm) HX.out HY.out hd.out hlt)).symm, below_drewN hB.out _⟩
    ·have q1 : decide (x < y) = false := by simp; omega
     have q2 : decide (y < x) = false := by simp; omega
     go_wp2_with fail
     go_quiet (fail)
     go_wp2_with fail
     go_quiet (fail)
     go_wp2_with fail
     go_roundw
     case rel => exact ⟨k, _, by omega, rfl, rfl, drop_eq_next HX.out (by rw [HY.out, heq]) hd.out, below_drewN hB.out _⟩
     case measure => simp [intOf] <;> omega
    ·have q1 : decide (x < y) = false := by simp; omega
     have q2 : decide (y < x) = true := by simpa using hgt
     go_wp2_with fail
     go_quiet (fail)
     go_wp2_with fail
     go_quiet (fail)
     go_wp2_with fail
     go_ret
     exact ⟨ret_int (ordN_gt (ord_lt_at (HB.out.trans HA.out.symm) HY.out HX.out hd.out.symm hgt)).symm, below_drewN (below_drewN hB.out _) _⟩
 ·rcases Nat.lt_or_gt_of_ne hne with hlt | hgt
  ·have HL := hid (lt_of_length hlt)
   have q0 : (((limbs a).length : Int) != ((limbs b).length : Int)) = true := by simp; omega
   have q1 : decide ((limbs a).length < (limbs b).length) = true := by simpa using hlt
   clear hne
   go_enter Tryz.func146, Tryz.ntmps146
   go_wp2_with fail
   go_ret
   exact ⟨ret_int (ordN_lt HL.out).symm, Below.refl _ _⟩
  ·have HL := hid (lt_of_length hgt)
   have q0 : (((limbs a).length : Int) != ((limbs b).length : Int)) = true := by simp; omega
   have q1 : decide ((limbs a).length < (limbs b).length) = false := by simp; omega
   clear hne
   go_enter Tryz.func146, Tryz.ntmps146
   go_wp2_with fail
   go_ret
   exact ⟨ret_int (ordN_gt HL.out).symm, Below.refl _ _⟩
theorem make_limbs (n : Nat) (hn : n ≤ 3000000) (W : World) : (Instr.makeSlice 89 (.int .i64 (n : Int)) (.int .i64 (n : Int))).run Tryz.prog W = .ok (.slice (some ⟨W.heap.size, 0, none⟩) n n) (W.alloc (.cells (madeCells #[.int .i64 0] n) 3)) :=
 run_make_row' (P := Tryz.prog) 89 3 (.int .i64 0) 8 Tryz.underlying89 (by kernel_rfl) rfl .i64 .i64 n (by omega) (by omega) W
theorem r1_ReadF (w : World) (s : ByteArray) (hd : allDig s.data.toList) (hs : s.size ≤ 1000000) :
 Calls Tryz.prog 50 #[.string s] w fun e w' => RetFr w.heap.size .i64 (dv s.data.toList) e w' ∧ Below w.heap.size w w' := by
 obtain ⟨i0, hi, hz0, hz1, hz2⟩ := info_parts info_int
 have HD := hid hd; clear hd
 have hsl := hid (show s.data.toList.length = s.size from by simp)
 go_enter Tryz.func50, Tryz.ntmps50
 go_wp2_with fail
 go_loopw [3, 4, 5, 6] (fun o ee nn ii wr => ∃ (l : List Nat) (t : Int) (e : Nat), ee = .int .i64 t ∧ t ≤ s.size ∧ -9 < t ∧ e = t.toNat ∧ l.length ≤ s.size ∧ l.length + e ≤ s.size ∧ Hid (ReadI s.data.toList e l) ∧ Hid (wr.ownsRow w.heap.size 3 1 o l.length (ints .i64 l)) ∧ Hid (Below w.heap.size w wr))
  (fun _ ee _ _ _ => (intOf ee).toNat)
 case atStart => exact ⟨[], _, s.size, rfl, by omega, by omega, by simp, by simp, by simp, by have := ReadI.start s.data.toList; rw [hsl.out] at this; exact this, World.ownsRow_nil _ _ _ _, Below.refl _ _⟩
 case round =>
  obtain ⟨l, t, e, rfl, ht1, ht2, he, hl1, hl2, hR, hO, hB⟩ := hrel
  obtain ⟨ao, co, rfl⟩ := owns_ex hO.out
  by_cases h0 : e = 0
  ·have q0 : decide ((0 : Int) < t) = false := by simp; omega
   subst h0
   have hv := hid hR.out.done
   clear he
   go_wp2_with fail
   refine (r1_trim_at _ _ _ l hR.out.sm (Row.of_owns hO.out)).mono ?_
   rintro e w1 ⟨⟨m, rfl, hv1⟩, rfl⟩
   go_wp2_with fail
   go_ret
   refine ⟨⟨_, rfl, by rw [← hv.out]; exact hv1, fun g hg => (hO.out.lt g ?_).1⟩, hB.out⟩
   cases ao with
   | none => simp [Value.ownBlock] at hg
   | some ad => simpa [Value.ownBlock] using hg
  ·obtain rfl : t = (e : Int) := by omega
   clear he
   have q0 : decide ((0 : Int) < (e : Int)) = true := by simp; omega
   obtain ⟨L, hL⟩ : ∃ L, s.data.toList = L := ⟨_, rfl⟩
   obtain ⟨s0, hs0⟩ : ∃ s0, s0 = e - 9 := ⟨_, rfl⟩
   have HS0 := hid hs0
   have h3 : s0 ≤ e := by omega
   have h4 : e ≤ s0 + 9 := by omega
   have hI : (9 < e ∧ (e : Int) - 9 = (s0 : Int)) ∨ (e ≤ 9 ∧ (0 : Int) = (s0 : Int)) := by omega
   clear hs0
   rcases hI with ⟨h9, hse⟩ | ⟨h9, hse⟩
   all_goals
    have HSE := hid hse
    clear hse
    go_wp2_with fail
    go_loop [5, 6] (fun nn ii => ∃ (i x : Nat), ii = .int .i64 i ∧ nn = .int .i64 x ∧ s0 ≤ i ∧ i ≤ e ∧ x < 1000000000 ∧ Hid (x = dv ((L.drop s0).take (i - s0)))) (fun _ ii => e - (intOf ii).toNat)
    case atStart => exact ⟨s0, 0, by have hh := HSE.out; first | (rw [← hh]; done) | (congr 1; omega), rfl, Nat.le_refl _, h3, by omega, by simp [Hid]⟩
    case round =>
     obtain ⟨i, x, rfl, rfl, hi1, hi2, hx, hxd⟩ := hrel
     by_cases hlt : i < e
     ·have hsz : i < s.size := by omega
      have hb := byte_get hsz
      rw [hL] at hb
      have hdig := isDig_iff.1 (HD.out s[i] (List.mem_of_getElem? (by rw [hL]; exact hb)))
      have hd1 := hdig.1; have hd2 := hdig.2
      have hcs := hid (chunk_succ hb hi1)
      have hlt9 := hid (chunk_lt (L := L) (a := s0) (k := i + 1 - s0) (by rw [← hL]; exact HD.out) (by omega))
      clear hb hdig
      go_wp2_with fail
      go_round
      case rel =>
       refine ⟨i + 1, 10 * x + (s[i].toNat - 48), by go_num, ?_, by omega, by omega, ?_, ?_⟩
       ·congr 1; omega
       ·have := hlt9.out; rw [hcs.out, ← hxd.out] at this; exact this
       ·rw [Hid, hcs.out, ← hxd.out]
      case measure => simp [intOf] <;> omega
     ·obtain rfl : i = e := by omega
      have HN := hid (hR.out.next HD.out)
      rw [hL, ← HS0.out, ← hxd.out] at HN
      go_wp2_with (at_builtin; refine wpList_append_own _ rfl _ _ 89 rfl w.heap.size 3 i0 (.int .i64 0) 1 8 Tryz.underlying89 hi hz0 hz1 hz2 rfl (by decide) _ l.length _ rfl (hO.out.alloc _) ⟨wr.heap.size, 0, none⟩ 1 1 [.int .i64 (x : Int)] rfl rfl (cell_one_new wr (.int .i64 (x : Int)) 3) (by simp [Value.oneCell']) (by unfold maxLen; omega) (by omega) (by have := hB.out.size; simp; omega) ?_; intro v' w3 hown3 hgrow3 _; have HO3 := hid hown3; have HG3 := hid hgrow3; clear hown3 hgrow3)
      obtain ⟨n1, n2⟩ := own_next hO.out hB.out HO3.out HG3.out
      have N1 := hid n1; have N2 := hid n2; clear n1 n2 HO3 HG3
      obtain ⟨a3, k3, rfl⟩ := owns_ex N1.out
      have hS := HS0.out
      go_wp2_with fail
      go_roundw
      case rel => exact ⟨l ++ [x], _, s0, rfl, by omega, by omega, by omega, by simp <;> omega, by simp <;> omega, by rw [hL]; exact HN, N1, N2⟩
      case measure => simp [intOf] <;> omega
theorem r1_Read (w : World) (s : ByteArray) (hd : allDig s.data.toList) (hs : s.size ≤ 1000000) :
 Calls Tryz.prog 50 #[.string s] w fun e w' => RetN .i64 (dv s.data.toList) e w' ∧ Below w.heap.size w w' := (r1_ReadF w s hd hs).mono fun e w' h => ⟨h.1.ret, h.2⟩
open Go.Lib (decDigits nDigits)
theorem make_bytes (n : Nat) (hn : n ≤ 100000000) (W : World) : (Instr.makeSlice 196 (.int .i64 (n : Int)) (.int .i64 (n : Int))).run Tryz.prog W = .ok (.slice (some ⟨W.heap.size, 0, none⟩) n n) (W.alloc (.cells (madeCells #[.int .u8 0] n) 5)) :=
 run_make_row' (P := Tryz.prog) 196 5 (.int .u8 0) 1 Tryz.underlying196 (by kernel_rfl) rfl .i64 .i64 n (by omega) (by omega) W
theorem r1_Write_zero (w : World) (v : Value) (h : IsN .i64 w v 0) : Calls Tryz.prog 107 #[v] w fun e w' => e = .returned (numV 0) ∧ Below w.heap.size w w' := by
 obtain ⟨a, c, rfl, _⟩ := h.openI
 have hl : (limbs 0).length = 0 := by rw [limbs_zero]; rfl
 rw [hl]
 have e : numV 0 = .string ⟨#[48]⟩ := by rw [numV, dec_zero]
 have E := hid e
 clear h hl e
 go_enter Tryz.func107, Tryz.ntmps107
 go_wp2_with fail
 go_ret
 exact ⟨by rw [E.out]; rfl, Below.refl _ _⟩
theorem r1_Write_pos (w : World) (v : Value) (n : Nat) (h : IsN .i64 w v n) (h0 : 0 < n) (hl : (limbs n).length ≤ 1000000) : Calls Tryz.prog 107 #[v] w fun e w' => e = .returned (numV n) ∧ Below w.heap.size w w' := by
 obtain ⟨a, c, rfl, h1, h2, h3⟩ := h.openI
 have H3 := hid h3; clear h3 h
 obtain ⟨L, hL⟩ : ∃ L, (limbs n).length = L := ⟨_, rfl⟩
 have hLp : 0 < L := by rw [← hL]; exact List.length_pos_iff.2 (fun e => by have := limbs_nil.1 e; omega)
 rw [hL] at h1 hl ⊢
 have HL := hid hL; clear hL
 have q0 : ((L : Int) == 0) = false := by simp; omega
 have hmk : ∀ W : World, (Instr.makeSlice 196 (.int .i64 (9 * (L : Int))) (.int .i64 (9 * (L : Int)))).run Tryz.prog W = .ok (.slice (some ⟨W.heap.size, 0, none⟩) (9 * L) (9 * L)) (W.alloc (.cells (madeCells #[.int .u8 0] (9 * L)) 5)) := fun W => by
  have := make_bytes (9 * L) (by omega) W
  rwa [Int.natCast_mul] at this
 go_enter Tryz.func107, Tryz.ntmps107
 go_wp2_with fail
 clear hmk q0
 go_loopw [4, 5, 6] (fun ii nn kk wr => ∃ (i : Nat) (bs : List UInt8), ii = .int .i64 i ∧ i ≤ L ∧ Hid (WrI n i bs) ∧ Hid (BArr 5 wr w.heap.size bs) ∧ Hid (Below w.heap.size w wr)) (fun ii _ _ _ => L - (intOf ii).toNat)
 case atStart => exact ⟨0, _, rfl, Nat.zero_le _, WrI.start n, by rw [HL.out]; exact BArr.made w 5 (9 * L), (Below.refl _ _).alloc (Nat.le_refl _) _⟩
 case round =>
  obtain ⟨i, bs, rfl, hi, hW, hO, hB⟩ := hrel
  by_cases hlt : i < L
  ·obtain ⟨x, hx⟩ : ∃ x, (limbs n)[L - 1 - i]? = some x := ⟨_, List.getElem?_eq_getElem (by rw [HL.out]; omega)⟩
   obtain ⟨g, o, rfl, hg, hc⟩ := H3.out _ x hx
   have d1 := (hB.out.cell (p := ⟨g, o + (L - 1 - i), none⟩) hg).trans hc
   have hxl := (sm_limbs n).get hx
   have HX := hid hx; clear hx hc
   go_wp2_with fail
   go_loopw [5, 6] (fun nn kk wq => ∃ (k y : Nat) (t : Int) (bs : List UInt8), nn = .int .i64 y ∧ kk = .int .i64 t ∧ t = (k : Int) - 1 ∧ k ≤ 9 ∧ y < 1000000000 ∧ Hid (WrJ n i x k y bs) ∧ Hid (BArr 5 wq w.heap.size bs) ∧ Hid (Below w.heap.size w wq)) (fun _ kk _ => (intOf kk + 1).toNat)
   case atStart => exact ⟨9, x, _, bs, rfl, rfl, by omega, by omega, hxl, hW.out.enter, hO, hB⟩
   case round =>
    obtain ⟨k, y, t, bs2, rfl, rfl, ht, hk, hy, hJ, hO2, hB2⟩ := hrel
    have hbl := hid (show bs2.length = 9 * L from by rw [hJ.out.len, HL.out])
    cases k with
    | zero =>
     obtain rfl : t = -1 := by omega
     clear ht
     have HN := hid (hJ.out.leave (by rw [HL.out]; exact HX.out) (by rw [HL.out]; exact hlt))
     go_wp2_with fail
     go_roundw
     case rel => exact ⟨i + 1, bs2, by go_num, by omega, HN, hO2, hB2⟩
     case measure => simp [intOf] <;> omega
    | succ k =>
     obtain rfl : t = (k : Int) := by omega
     clear ht
     have HN := hid (hJ.out.next (by omega) (by rw [HL.out]; exact hlt))
     obtain ⟨z, hz⟩ : ∃ z, bs2[9 * i + k]? = some z := ⟨_, List.getElem?_eq_getElem (by rw [hbl.out]; omega)⟩
     have d3 := hO2.out.cell hz
     have d4 := hO2.out.free (9 * i + k)
     clear hz
     go_wp2_with fail
     go_roundw
     case rel =>
      refine ⟨k, y / 10, _, bs2.set (9 * i + k) (UInt8.ofNat (48 + y % 10)), by go_num, rfl, by omega, by omega, by omega, HN, ?_, below_set hB2.out (Nat.le_refl _) _⟩
      have hz : (48 + (y : Int) % 10) = ((UInt8.ofNat (48 + y % 10)).toNat : Int) := by rw [digit_ofNat (by omega)]; omega
      rw [hz]
      exact hO2.out.set _ _
     case measure => simp [intOf] <;> omega
  ·obtain rfl : i = L := by omega
   obtain ⟨hdig, hval⟩ := WrI.done (by have := hW.out; rw [← HL.out] at this; exact this)
   have HD := hid hdig; have HV := hid hval
   have hbl := hid (show bs.length = 9 * i from by rw [hW.out.len, HL.out])
   clear hdig hval
   go_wp2_with fail
   go_loop [3] (fun b => ∃ r : Nat, r + 1 ≤ 9 * i ∧ b = .slice (some ⟨w.heap.size, r, none⟩) (9 * i - r) (9 * i - r) ∧ Hid (dv (bs.drop r) = n)) (fun b => match b with | .slice _ m _ => m | _ => 0)
   case atStart => exact ⟨0, by omega, rfl, by rw [Hid, List.drop_zero]; exact HV.out⟩
   case round =>
    obtain ⟨r, hr, rfl, hv⟩ := hrel
    obtain ⟨z, hz⟩ : ∃ z, bs[r]? = some z := ⟨_, List.getElem?_eq_getElem (by rw [hbl.out]; omega)⟩
    have d3 := hO.out.cell hz
    obtain ⟨m, hm⟩ : ∃ m, m = 9 * i - r := ⟨_, rfl⟩
    rw [← hm]
    have hm1 : 1 ≤ m := by omega
    have hm9 : m ≤ 9000000 := by omega
    have HM := hid hm
    by_cases hgo : 1 < m ∧ z = 48
    ·obtain ⟨g1, rfl⟩ := hgo
     have q1 : decide ((1 : Int) < (m : Int)) = true := by simp; omega
     have HN := hid (dv_zero_head hz)
     clear hz hm
     go_wp2_with fail
     go_round
     case rel => exact ⟨r + 1, by have := HM.out; omega, by rw [show 9 * i - (r + 1) = m - 1 by have := HM.out; omega], by rw [Hid, HN.out]; exact hv.out⟩
     case measure => simp; omega
    ·have hfin := hid (strip_done HD.out hv.out (by rw [hbl.out]; omega) (by
      rw [hbl.out]
      by_cases h1 : 1 < m
      ·right
       rw [hz]
       intro e
       injection e with e
       exact hgo ⟨h1, e⟩
      ·left; omega))
     have hcv : (convert 196 9 (.slice (some ⟨w.heap.size, r, none⟩) m m)).run Tryz.prog wr = .ok (numV n) wr := by
      have hlen : (bs.drop r).length = m := by rw [List.length_drop, hbl.out, hm]
      have := Go.run_convert_bytes_back (P := Tryz.prog) wr 196 9 5 ⟨w.heap.size, r, none⟩ m (bs.drop r) Tryz.underlying196 Tryz.underlying5 Tryz.underlying9 (fun j hj => by
       rw [Addr.add_lit]
       refine hO.out.cell ?_
       have h2 : r + j < bs.length := by rw [hlen] at hj; rw [hbl.out]; omega
       rw [List.getElem?_eq_getElem h2, List.getElem_drop])
      rw [hlen, hfin.out] at this
      exact this
     by_cases h1 : 1 < m
     ·have q1 : decide ((1 : Int) < (m : Int)) = true := by simp; omega
      have q2 : ((z.toNat : Int) == 48) = false := by
       rw [beq_eq_false_iff_ne]
       intro e
       refine hgo ⟨h1, ?_⟩
       have : z.toNat = (48 : UInt8).toNat := by simp; omega
       exact UInt8.toNat_inj.1 this
      clear hz hm hgo h1
      go_wp2_with fail
      go_ret
      exact ⟨rfl, hB.out⟩
     ·obtain rfl : m = 1 := by omega
      clear hz hm hgo h1
      go_wp2_with fail
      go_ret
      exact ⟨rfl, hB.out⟩
theorem r1_Check (w : World) (s : ByteArray) (hs : s.size ≤ 9223372036854775807) : Calls Tryz.prog 177 #[.string s] w fun e w' => e = .returned (.int .i64 (errN s.data.toList)) ∧ w = w' := by
 have hsl := hid (show s.data.toList.length = s.size from by simp)
 by_cases h0 : s.size = 0
 ·have hnil : s.data.toList = [] := List.eq_nil_of_length_eq_zero (by rw [hsl.out, h0])
  obtain rfl : s = ⟨#[]⟩ := by
   cases s with
   | mk d => simp at hnil; rw [hnil]
  clear hsl h0 hnil hs
  go_enter Tryz.func177, Tryz.ntmps177
  go_wp2_with fail
  go_ret
  exact ⟨ret_int (by rw [errN_bad]; exact fun h => h.1 rfl), rfl⟩
 ·have hpos : 0 < s.size := by omega
  have hne : s.data.toList.isEmpty = false := by
   rw [List.isEmpty_eq_false_iff]
   intro e
   have := hsl.out; rw [e] at this; simp at this; omega
  have hn : ¬ s.toList = [] := by rw [Go.ByteArray.toList_eq]; intro e; rw [e] at hne; cases hne
  have hn2 : s.toList.isEmpty = false := by rw [Go.ByteArray.toList_eq]; exact hne
  have hb0 := hid (byte_get hpos)
  clear hne
  by_cases hz : s[0] = 48 ∧ 1 < s.size
  ·have q1 : ((s[0].toNat : Int) == 48) = true := by rw [hz.1]; rfl
   have q2 : decide ((1 : Int) < (s.size : Int)) = true := by simp; omega
   have hbad := hid (show ¬ isForm s.data.toList from fun h => by
    rcases h.2.1 with h1 | h1
    ·have := congrArg List.length h1
     rw [hsl.out] at this; simp at this; omega
    ·rw [List.head?_eq_getElem?, hb0.out, hz.1] at h1
     exact h1 rfl)
   clear hz
   go_enter Tryz.func177, Tryz.ntmps177
   go_wp2_with fail
   go_ret
   exact ⟨ret_int (by rw [errN_bad hbad.out]), rfl⟩
  ·have hform : allDig s.data.toList → isForm s.data.toList := fun hd => by
    refine ⟨fun e => by have := hsl.out; rw [e] at this; simp at this; omega, ?_, hd⟩
    by_cases h48 : s[0] = 48
    ·left
     have h1 : s.data.toList.length = 1 := by
      have : ¬ 1 < s.size := fun h => hz ⟨h48, h⟩
      rw [hsl.out]; omega
     match hm : s.data.toList, h1 with
     | [c], _ =>
      have := hb0.out
      rw [hm] at this
      simp at this
      rw [this, h48]
    ·right
     rw [List.head?_eq_getElem?, hb0.out]
     simpa using h48
   have HF := hid hform
   have hI : (((s[0].toNat : Int) == 48) = false ∧ decide ((1 : Int) < (s.size : Int)) = decide ((1 : Int) < (s.size : Int))) ∨ (((s[0].toNat : Int) == 48) = true ∧ decide ((1 : Int) < (s.size : Int)) = false) := by
    by_cases h48 : s[0] = 48
    ·right
     have : ¬ 1 < s.size := fun h => hz ⟨h48, h⟩
     refine ⟨by rw [h48]; rfl, by simp; omega⟩
    ·left
     refine ⟨?_, rfl⟩
     rw [beq_eq_false_iff_ne]
     intro e
     refine h48 ?_
     have : s[0].toNat = (48 : UInt8).toNat := by simp; omega
     exact UInt8.toNat_inj.1 this
   clear hform hz
   rcases hI with ⟨q1, -⟩ | ⟨q1, q2⟩
   all_goals
    go_enter Tryz.func177, Tryz.ntmps177
    go_wp2_with fail
    clear q1
    go_loop [3] (fun ii => ∃ i : Nat, ii = .int .i64 i ∧ i ≤ s.size ∧ Hid (∀ (j : Nat) (b : UInt8), j < i → s.data.toList[j]? = some b → isDig b = true)) (fun ii => s.size - (intOf ii).toNat)
    case atStart => exact ⟨0, rfl, Nat.zero_le _, fun j b hj => absurd hj (by omega)⟩
    case round =>
     obtain ⟨i, rfl, hi, hI⟩ := hrel
     by_cases hlt : i < s.size
     ·have hb := hid (byte_get hlt)
      have hbad : ¬ isDig s[i] = true → ¬ isForm s.data.toList := fun h hf => h (hf.2.2 _ (List.mem_of_getElem? hb.out))
      by_cases c1 : s[i].toNat < 48
      ·have q1 : decide ((s[i].toNat : Int) < 48) = true := by simp; omega
       have hB := hid (hbad (fun e => by have := isDig_iff.1 e; omega))
       clear hbad c1
       go_wp2_with fail
       go_ret
       exact ⟨ret_int (by rw [errN_bad hB.out]), rfl⟩
      ·by_cases c2 : 57 < s[i].toNat
       ·have q1 : decide ((s[i].toNat : Int) < 48) = false := by simp; omega
        have q2 : decide ((57 : Int) < (s[i].toNat : Int)) = true := by simp; omega
        have hB := hid (hbad (fun e => by have := isDig_iff.1 e; omega))
        clear hbad c1 c2
        go_wp2_with fail
        go_ret
        exact ⟨ret_int (by rw [errN_bad hB.out]), rfl⟩
       ·have q1 : decide ((s[i].toNat : Int) < 48) = false := by simp; omega
        have q2 : decide ((57 : Int) < (s[i].toNat : Int)) = false := by simp; omega
        have hD := hid (isDig_iff.2 (show 48 ≤ s[i].toNat ∧ s[i].toNat ≤ 57 by omega))
        clear hbad c1 c2
        go_wp2_with fail
        go_round
        case rel => exact ⟨i + 1, by go_num, by omega, fun j b hj hjb => by
         by_cases e : j = i
         ·subst e; have := hb.out; rw [hjb] at this; cases this; exact hD.out
         ·exact hI.out j b (by omega) hjb⟩
        case measure => simp [intOf] <;> omega
     ·obtain rfl : i = s.size := by omega
      have hF := hid (HF.out fun b hb => by
       obtain ⟨j, hj⟩ := List.getElem?_of_mem hb
       exact hI.out j b (by have := (List.getElem?_eq_some_iff.1 hj).1; rw [hsl.out] at this; exact this) hj)
      by_cases hlong : 4000 < s.size
      ·have q3 : decide ((4000 : Int) < (s.size : Int)) = true := by simp; omega
       have HL := hid hlong; clear hlong
       go_wp2_with fail
       go_ret
       exact ⟨ret_int (by rw [errN_long hF.out (by rw [hsl.out]; exact HL.out)]), rfl⟩
      ·have q3 : decide ((4000 : Int) < (s.size : Int)) = false := by simp; omega
       have HL := hid hlong; clear hlong
       go_wp2_with fail
       go_ret
       exact ⟨ret_int (by rw [errN_ok hF.out (by rw [hsl.out]; exact HL.out)]), rfl⟩
theorem r1_Write (w : World) (v : Value) (n : Nat) (h : IsN .i64 w v n) (hl : (limbs n).length ≤ 1000000) : Calls Tryz.prog 107 #[v] w fun e w' => e = .returned (numV n) ∧ Below w.heap.size w w' := by
 rcases Nat.eq_zero_or_pos n with rfl | h0
 ·exact r1_Write_zero w v h
 ·exact r1_Write_pos w v n h h0 hl
theorem r1_Read_num (w : World) (a : Nat) (h : nDigits a ≤ 9000) : Calls Tryz.prog 50 #[.string (numB a)] w fun e w' => RetN .i64 a e w' ∧ Below w.heap.size w w' := by
 have := r1_Read w (numB a) (by rw [numB_list]; exact allDig_dec a) (by rw [numB_size]; omega)
 rwa [numB_list, dv_dec] at this
theorem conv_d0 (w : World) : (convert 21 9 (.int .i32 48)).run Tryz.prog w = .ok (.string ⟨#[48]⟩) w := by kernel_rfl
theorem conv_d1 (w : World) : (convert 21 9 (.int .i32 49)).run Tryz.prog w = .ok (.string ⟨#[49]⟩) w := by kernel_rfl
theorem conv_d2 (w : World) : (convert 21 9 (.int .i32 50)).run Tryz.prog w = .ok (.string ⟨#[50]⟩) w := by kernel_rfl
theorem conv_d3 (w : World) : (convert 21 9 (.int .i32 51)).run Tryz.prog w = .ok (.string ⟨#[51]⟩) w := by kernel_rfl
theorem conv_d4 (w : World) : (convert 21 9 (.int .i32 52)).run Tryz.prog w = .ok (.string ⟨#[52]⟩) w := by kernel_rfl
theorem conv_d5 (w : World) : (convert 21 9 (.int .i32 53)).run Tryz.prog w = .ok (.string ⟨#[53]⟩) w := by kernel_rfl
theorem conv_d6 (w : World) : (convert 21 9 (.int .i32 54)).run Tryz.prog w = .ok (.string ⟨#[54]⟩) w := by kernel_rfl
theorem conv_d7 (w : World) : (convert 21 9 (.int .i32 55)).run Tryz.prog w = .ok (.string ⟨#[55]⟩) w := by kernel_rfl
theorem conv_d8 (w : World) : (convert 21 9 (.int .i32 56)).run Tryz.prog w = .ok (.string ⟨#[56]⟩) w := by kernel_rfl
theorem conv_d9 (w : World) : (convert 21 9 (.int .i32 57)).run Tryz.prog w = .ok (.string ⟨#[57]⟩) w := by kernel_rfl
theorem conv_digit (d : Nat) (h : d < 10) (w : World) : (convert 21 9 (.int .i32 (((48 + d : Nat)) : Int))).run Tryz.prog w = .ok (.string ⟨[UInt8.ofNat (48 + d)].toArray⟩) w := by
 obtain rfl | rfl | rfl | rfl | rfl | rfl | rfl | rfl | rfl | rfl : d = 0 ∨ d = 1 ∨ d = 2 ∨ d = 3 ∨ d = 4 ∨ d = 5 ∨ d = 6 ∨ d = 7 ∨ d = 8 ∨ d = 9 := by omega
 ·exact conv_d0 w
 ·exact conv_d1 w
 ·exact conv_d2 w
 ·exact conv_d3 w
 ·exact conv_d4 w
 ·exact conv_d5 w
 ·exact conv_d6 w
 ·exact conv_d7 w
 ·exact conv_d8 w
 ·exact conv_d9 w
theorem r1_FromInt (w : World) (n : Nat) (h : n ≤ 9223372036854775807) : Calls Tryz.prog 110 #[.int .i64 n] w fun e w' => e = .returned (.tuple #[numV n, .int .i64 0]) ∧ w = w' := by
 have hd20 := hid (show nDigits n ≤ 19 from nDigits_le (by omega) (by omega))
 go_enter Tryz.func110, Tryz.ntmps110
 go_wp2_with fail
 go_loop [0, 4] (fun nn ss => ∃ (m : Nat) (l : List UInt8), nn = .int .i64 m ∧ m ≤ 9223372036854775807 ∧ ss = .string ⟨l.toArray⟩ ∧ l.length ≤ 19 ∧ Hid (decDigits n = decDigits m ++ l)) (fun nn _ => (intOf nn).toNat)
 case atStart => exact ⟨n, [], rfl, h, rfl, by simp, by simp [Hid]⟩
 case round =>
  obtain ⟨m, l, rfl, hm, rfl, hl, hd⟩ := hrel
  have hc := conv_digit (m % 10) (by omega)
  have hz : (((48 + m % 10 : Nat)) : Int) = 48 + (m : Int) % 10 := by omega
  rw [hz] at hc
  by_cases h9 : 9 < m
  ·have q1 : decide ((9 : Int) < (m : Int)) = true := by simp; omega
   have hdm := hid (decDigits_big (u := m) (by omega))
   have hl19 : l.length + 1 ≤ 19 := by
    have h1 := congrArg List.length hd.out
    rw [List.length_append, Go.Lib.decDigits_length] at h1
    have h2 := hd20.out
    have h3 := dec_length_pos m
    omega
   clear hz
   go_wp2_with fail
   go_round
   case rel => exact ⟨m / 10, UInt8.ofNat (48 + m % 10) :: l, by go_num, by omega, by simp [Go.ByteArray.mk_append_mk], by simpa using hl19, by rw [Hid, hd.out, hdm.out]; simp⟩
   case measure => simp [intOf] <;> omega
  ·have q1 : decide ((9 : Int) < (m : Int)) = false := by simp; omega
   have hm9 : m < 10 := by omega
   have hdm := hid (decDigits_small hm9)
   have hmm : m % 10 = m := Nat.mod_eq_of_lt hm9
   rw [hmm] at hc
   have hmI : (48 + (m : Int) % 10) = 48 + (m : Int) := by omega
   rw [hmI] at hc
   clear hz hmm hmI h9
   go_wp2_with fail
   go_ret2
   refine ⟨ret_pair ?_ rfl, rfl⟩
   rw [numV, hd.out, hdm.out]
   simp [Go.ByteArray.mk_append_mk]
end Go.Proofs.YtlmnpocifldpmaaGreatDoor
namespace Go.Proofs.YtlmnpocifldpmaaGreatDoor
open Go.RowKit
theorem r1_PlusF (w : World) (v u : Value) (a b : Nat) (ha : IsN .i64 w v a) (hb : IsN .i64 w u b) (hla : (limbs a).length ≤ 1000000) (hlb : (limbs b).length ≤ 1000000) :
 Calls Tryz.prog 111 #[v, u] w fun e w' => RetFr w.heap.size .i64 (a + b) e w' ∧ Below w.heap.size w w' := by
 obtain ⟨i0, hi, hz0, hz1, hz2⟩ := info_parts info_int
 obtain ⟨a1, c1, rfl, h1, h2, h3⟩ := ha.openI
 obtain ⟨a2, c2, rfl, k1, k2, k3⟩ := hb.openI
 have H3 := hid h3; have K3 := hid k3; clear h3 k3 ha hb
 obtain ⟨n, ea⟩ : ∃ n, (limbs a).length = n := ⟨_, rfl⟩
 obtain ⟨m, eb⟩ : ∃ m, (limbs b).length = m := ⟨_, rfl⟩
 rw [ea] at h1 hla ⊢
 rw [eb] at k1 hlb ⊢
 have HA := hid ea; have HB := hid eb
 clear ea eb
 go_enter Tryz.func111, Tryz.ntmps111
 go_wp2_with fail
 go_loopw [5, 6, 7] (fun o cc i wr => ∃ (s : List Nat) (c : Nat) (C : Int), i = .int .i64 s.length ∧ cc = .int .i64 C ∧ C = (c : Int) ∧ c ≤ 1 ∧ s.length ≤ 1000001 ∧ (s.length ≤ n ∨ s.length ≤ m ∨ c = 0) ∧ Hid (PlusI a b s c) ∧ Hid (wr.ownsRow w.heap.size 3 1 o s.length (ints .i64 s)) ∧ Hid (Below w.heap.size w wr))
  (fun _ _ i _ => 1000002 - (intOf i).toNat)
 case atStart => exact ⟨[], 0, 0, rfl, rfl, rfl, by omega, by simp, .inl (by simp), PlusI.start a b, World.ownsRow_nil _ _ _ _, Below.refl _ _⟩
 case round =>
  obtain ⟨s, c, C, rfl, rfl, hC, hc1, hs1, hs2, hP, hO, hB⟩ := hrel
  obtain ⟨ao, co, rfl⟩ := owns_ex hO.out
  by_cases hA : s.length < n
  ·obtain ⟨x, hx⟩ : ∃ x, (limbs a)[s.length]? = some x := ⟨_, List.getElem?_eq_getElem (by rw [HA.out]; exact hA)⟩
   obtain ⟨g, og, rfl, hg, hc⟩ := H3.out _ x hx
   have hc' := (hB.out.cell (p := ⟨g, og + s.length, none⟩) hg).trans hc
   have hxl := (sm_limbs a).get hx
   have HX := hid hx; clear hx hc
   by_cases hB' : s.length < m
   ·obtain ⟨y, hy⟩ : ∃ y, (limbs b)[s.length]? = some y := ⟨_, List.getElem?_eq_getElem (by rw [HB.out]; exact hB')⟩
    obtain ⟨g', og', rfl, hg', hd⟩ := K3.out _ y hy
    have hd' := (hB.out.cell (p := ⟨g', og' + s.length, none⟩) hg').trans hd
    have hyl := (sm_limbs b).get hy
    have HY := hid hy; clear hy hd
    rcases (show c = 0 ∨ c = 1 by omega) with rfl | rfl
    ·obtain rfl : C = 0 := by omega
     clear hC
     have HN := hid (hP.out.next (by rw [HA.out]; exact .inl hA))
     rw [getD_of HX.out, getD_of HY.out] at HN
     go_wp2_with (at_builtin; refine wpList_append_own _ rfl _ _ 89 rfl w.heap.size 3 i0 (.int .i64 0) 1 8 Tryz.underlying89 hi hz0 hz1 hz2 rfl (by decide) _ s.length _ rfl (hO.out.alloc _) ⟨wr.heap.size, 0, none⟩ 1 1 [.int .i64 ((↑x + ↑y : Int) % 1000000000)] rfl rfl (cell_one_new wr (.int .i64 ((↑x + ↑y : Int) % 1000000000)) 3) (by simp [Value.oneCell']) (by unfold maxLen; omega) (by omega) (by have := hB.out.size; simp; omega) ?_; intro v' w3 hown3 hgrow3 _; have HO3 := hid hown3; have HG3 := hid hgrow3; clear hown3 hgrow3)
     have hz : ((↑x + ↑y : Int) % 1000000000) = (((x + 0 + y) % 1000000000 : Nat) : Int) := by omega
     rw [hz] at HO3
     obtain ⟨n1, n2⟩ := own_next hO.out hB.out HO3.out HG3.out
     have N1 := hid n1; have N2 := hid n2; clear n1 n2 hz HO3 HG3
     obtain ⟨a3, k3, rfl⟩ := owns_ex N1.out
     go_wp2_with fail
     go_roundw
     case rel => exact ⟨s ++ [(x + 0 + y) % 1000000000], (x + 0 + y) / 1000000000, _, by simp, rfl, by omega, HN.out.c1, by simp <;> omega, by simp <;> omega, HN, N1, N2⟩
     case measure => simp [intOf] <;> omega
    ·obtain rfl : C = 1 := by omega
     clear hC
     have HN := hid (hP.out.next (by rw [HA.out]; exact .inl hA))
     rw [getD_of HX.out, getD_of HY.out] at HN
     go_wp2_with (at_builtin; refine wpList_append_own _ rfl _ _ 89 rfl w.heap.size 3 i0 (.int .i64 0) 1 8 Tryz.underlying89 hi hz0 hz1 hz2 rfl (by decide) _ s.length _ rfl (hO.out.alloc _) ⟨wr.heap.size, 0, none⟩ 1 1 [.int .i64 ((1 + ↑x + ↑y : Int) % 1000000000)] rfl rfl (cell_one_new wr (.int .i64 ((1 + ↑x + ↑y : Int) % 1000000000)) 3) (by simp [Value.oneCell']) (by unfold maxLen; omega) (by omega) (by have := hB.out.size; simp; omega) ?_; intro v' w3 hown3 hgrow3 _; have HO3 := hid hown3; have HG3 := hid hgrow3; clear hown3 hgrow3)
     have hz : ((1 + ↑x + ↑y : Int) % 1000000000) = (((x + 1 + y) % 1000000000 : Nat) : Int) := by omega
     rw [hz] at HO3
     obtain ⟨n1, n2⟩ := own_next hO.out hB.out HO3.out HG3.out
     have N1 := hid n1; have N2 := hid n2; clear n1 n2 hz HO3 HG3
     obtain ⟨a3, k3, rfl⟩ := owns_ex N1.out
     go_wp2_with fail
     go_roundw
     case rel => exact ⟨s ++ [(x + 1 + y) % 1000000000], (x + 1 + y) / 1000000000, _, by simp, rfl, by omega, HN.out.c1, by simp <;> omega, by simp <;> omega, HN, N1, N2⟩
     case measure => simp [intOf] <;> omega
   ·skip
    rcases (show c = 0 ∨ c = 1 by omega) with rfl | rfl
    ·obtain rfl : C = 0 := by omega
     clear hC
     have HN := hid (hP.out.next (by rw [HA.out]; exact .inl hA))
     rw [getD_of HX.out, getD_none (by rw [HB.out]; omega)] at HN
     go_wp2_with (at_builtin; refine wpList_append_own _ rfl _ _ 89 rfl w.heap.size 3 i0 (.int .i64 0) 1 8 Tryz.underlying89 hi hz0 hz1 hz2 rfl (by decide) _ s.length _ rfl (hO.out.alloc _) ⟨wr.heap.size, 0, none⟩ 1 1 [.int .i64 ((↑x : Int) % 1000000000)] rfl rfl (cell_one_new wr (.int .i64 ((↑x : Int) % 1000000000)) 3) (by simp [Value.oneCell']) (by unfold maxLen; omega) (by omega) (by have := hB.out.size; simp; omega) ?_; intro v' w3 hown3 hgrow3 _; have HO3 := hid hown3; have HG3 := hid hgrow3; clear hown3 hgrow3)
     have hz : ((↑x : Int) % 1000000000) = (((x + 0 + 0) % 1000000000 : Nat) : Int) := by omega
     rw [hz] at HO3
     obtain ⟨n1, n2⟩ := own_next hO.out hB.out HO3.out HG3.out
     have N1 := hid n1; have N2 := hid n2; clear n1 n2 hz HO3 HG3
     obtain ⟨a3, k3, rfl⟩ := owns_ex N1.out
     go_wp2_with fail
     go_roundw
     case rel => exact ⟨s ++ [(x + 0 + 0) % 1000000000], (x + 0 + 0) / 1000000000, _, by simp, rfl, by omega, HN.out.c1, by simp <;> omega, by simp <;> omega, HN, N1, N2⟩
     case measure => simp [intOf] <;> omega
    ·obtain rfl : C = 1 := by omega
     clear hC
     have HN := hid (hP.out.next (by rw [HA.out]; exact .inl hA))
     rw [getD_of HX.out, getD_none (by rw [HB.out]; omega)] at HN
     go_wp2_with (at_builtin; refine wpList_append_own _ rfl _ _ 89 rfl w.heap.size 3 i0 (.int .i64 0) 1 8 Tryz.underlying89 hi hz0 hz1 hz2 rfl (by decide) _ s.length _ rfl (hO.out.alloc _) ⟨wr.heap.size, 0, none⟩ 1 1 [.int .i64 ((1 + ↑x : Int) % 1000000000)] rfl rfl (cell_one_new wr (.int .i64 ((1 + ↑x : Int) % 1000000000)) 3) (by simp [Value.oneCell']) (by unfold maxLen; omega) (by omega) (by have := hB.out.size; simp; omega) ?_; intro v' w3 hown3 hgrow3 _; have HO3 := hid hown3; have HG3 := hid hgrow3; clear hown3 hgrow3)
     have hz : ((1 + ↑x : Int) % 1000000000) = (((x + 1 + 0) % 1000000000 : Nat) : Int) := by omega
     rw [hz] at HO3
     obtain ⟨n1, n2⟩ := own_next hO.out hB.out HO3.out HG3.out
     have N1 := hid n1; have N2 := hid n2; clear n1 n2 hz HO3 HG3
     obtain ⟨a3, k3, rfl⟩ := owns_ex N1.out
     go_wp2_with fail
     go_roundw
     case rel => exact ⟨s ++ [(x + 1 + 0) % 1000000000], (x + 1 + 0) / 1000000000, _, by simp, rfl, by omega, HN.out.c1, by simp <;> omega, by simp <;> omega, HN, N1, N2⟩
     case measure => simp [intOf] <;> omega
  ·skip
   by_cases hB' : s.length < m
   ·obtain ⟨y, hy⟩ : ∃ y, (limbs b)[s.length]? = some y := ⟨_, List.getElem?_eq_getElem (by rw [HB.out]; exact hB')⟩
    obtain ⟨g', og', rfl, hg', hd⟩ := K3.out _ y hy
    have hd' := (hB.out.cell (p := ⟨g', og' + s.length, none⟩) hg').trans hd
    have hyl := (sm_limbs b).get hy
    have HY := hid hy; clear hy hd
    rcases (show c = 0 ∨ c = 1 by omega) with rfl | rfl
    ·obtain rfl : C = 0 := by omega
     clear hC
     have HN := hid (hP.out.next (by rw [HB.out]; exact .inr (.inl hB')))
     rw [getD_none (by rw [HA.out]; omega), getD_of HY.out] at HN
     go_wp2_with (at_builtin; refine wpList_append_own _ rfl _ _ 89 rfl w.heap.size 3 i0 (.int .i64 0) 1 8 Tryz.underlying89 hi hz0 hz1 hz2 rfl (by decide) _ s.length _ rfl (hO.out.alloc _) ⟨wr.heap.size, 0, none⟩ 1 1 [.int .i64 ((↑y : Int) % 1000000000)] rfl rfl (cell_one_new wr (.int .i64 ((↑y : Int) % 1000000000)) 3) (by simp [Value.oneCell']) (by unfold maxLen; omega) (by omega) (by have := hB.out.size; simp; omega) ?_; intro v' w3 hown3 hgrow3 _; have HO3 := hid hown3; have HG3 := hid hgrow3; clear hown3 hgrow3)
     have hz : ((↑y : Int) % 1000000000) = (((0 + 0 + y) % 1000000000 : Nat) : Int) := by omega
     rw [hz] at HO3
     obtain ⟨n1, n2⟩ := own_next hO.out hB.out HO3.out HG3.out
     have N1 := hid n1; have N2 := hid n2; clear n1 n2 hz HO3 HG3
     obtain ⟨a3, k3, rfl⟩ := owns_ex N1.out
     go_wp2_with fail
     go_roundw
     case rel => exact ⟨s ++ [(0 + 0 + y) % 1000000000], (0 + 0 + y) / 1000000000, _, by simp, rfl, by omega, HN.out.c1, by simp <;> omega, by simp <;> omega, HN, N1, N2⟩
     case measure => simp [intOf] <;> omega
    ·obtain rfl : C = 1 := by omega
     clear hC
     have HN := hid (hP.out.next (by rw [HB.out]; exact .inr (.inl hB')))
     rw [getD_none (by rw [HA.out]; omega), getD_of HY.out] at HN
     go_wp2_with (at_builtin; refine wpList_append_own _ rfl _ _ 89 rfl w.heap.size 3 i0 (.int .i64 0) 1 8 Tryz.underlying89 hi hz0 hz1 hz2 rfl (by decide) _ s.length _ rfl (hO.out.alloc _) ⟨wr.heap.size, 0, none⟩ 1 1 [.int .i64 ((1 + ↑y : Int) % 1000000000)] rfl rfl (cell_one_new wr (.int .i64 ((1 + ↑y : Int) % 1000000000)) 3) (by simp [Value.oneCell']) (by unfold maxLen; omega) (by omega) (by have := hB.out.size; simp; omega) ?_; intro v' w3 hown3 hgrow3 _; have HO3 := hid hown3; have HG3 := hid hgrow3; clear hown3 hgrow3)
     have hz : ((1 + ↑y : Int) % 1000000000) = (((0 + 1 + y) % 1000000000 : Nat) : Int) := by omega
     rw [hz] at HO3
     obtain ⟨n1, n2⟩ := own_next hO.out hB.out HO3.out HG3.out
     have N1 := hid n1; have N2 := hid n2; clear n1 n2 hz HO3 HG3
     obtain ⟨a3, k3, rfl⟩ := owns_ex N1.out
     go_wp2_with fail
     go_roundw
     case rel => exact ⟨s ++ [(0 + 1 + y) % 1000000000], (0 + 1 + y) / 1000000000, _, by simp, rfl, by omega, HN.out.c1, by simp <;> omega, by simp <;> omega, HN, N1, N2⟩
     case measure => simp [intOf] <;> omega
   ·skip
    rcases (show c = 0 ∨ c = 1 by omega) with rfl | rfl
    ·obtain rfl : C = 0 := by omega
     clear hC
     have hs := hid (hP.out.done (by rw [HA.out]; exact hA) (by rw [HB.out]; exact hB') rfl)
     go_wp2_with fail
     go_ret
     exact ⟨⟨_, rfl, owns_isN hO.out hs.out, fun g hg => (hO.out.lt g hg).1⟩, hB.out⟩
    ·obtain rfl : C = 1 := by omega
     clear hC
     have HN := hid (hP.out.next (by exact .inr (.inr (by omega))))
     rw [getD_none (by rw [HA.out]; omega), getD_none (by rw [HB.out]; omega)] at HN
     go_wp2_with (at_builtin; refine wpList_append_own _ rfl _ _ 89 rfl w.heap.size 3 i0 (.int .i64 0) 1 8 Tryz.underlying89 hi hz0 hz1 hz2 rfl (by decide) _ s.length _ rfl (hO.out.alloc _) ⟨wr.heap.size, 0, none⟩ 1 1 [.int .i64 (1)] rfl rfl (cell_one_new wr (.int .i64 (1)) 3) (by simp [Value.oneCell']) (by unfold maxLen; omega) (by omega) (by have := hB.out.size; simp; omega) ?_; intro v' w3 hown3 hgrow3 _; have HO3 := hid hown3; have HG3 := hid hgrow3; clear hown3 hgrow3)
     have hz : (1) = (((0 + 1 + 0) % 1000000000 : Nat) : Int) := by omega
     rw [hz] at HO3
     obtain ⟨n1, n2⟩ := own_next hO.out hB.out HO3.out HG3.out
     have N1 := hid n1; have N2 := hid n2; clear n1 n2 hz HO3 HG3
     obtain ⟨a3, k3, rfl⟩ := owns_ex N1.out
     go_wp2_with fail
     go_roundw
     case rel => exact ⟨s ++ [(0 + 1 + 0) % 1000000000], (0 + 1 + 0) / 1000000000, _, by simp, rfl, by omega, HN.out.c1, by simp <;> omega, by simp <;> omega, HN, N1, N2⟩
     case measure => simp [intOf] <;> omega
theorem r1_Plus (w : World) (v u : Value) (a b : Nat) (ha : IsN .i64 w v a) (hb : IsN .i64 w u b) (hla : (limbs a).length ≤ 1000000) (hlb : (limbs b).length ≤ 1000000) :
 Calls Tryz.prog 111 #[v, u] w fun e w' => RetN .i64 (a + b) e w' ∧ Below w.heap.size w w' :=
 (r1_PlusF w v u a b ha hb hla hlb).mono fun _ _ h => ⟨h.1.ret, h.2⟩
open Go.Lib (decDigits nDigits)
theorem r2_Int (w : World) (n : Nat) (h : n ≤ 9223372036854775807) : Calls Tryz.prog 51 #[.int .i64 n] w fun e w' => e = .returned (.string (numB n)) ∧ w = w' := by
 have q0 : decide ((0 : Int) ≤ (n : Int)) = true := by simp
 go_enter Tryz.func51, Tryz.ntmps51
 go_wp2_with fail
 refine (r1_FromInt _ n h).mono ?_; rintro e w1 ⟨rfl, rfl⟩
 rw [numV_eq]
 go_wp2_with fail
 go_ret
 exact ⟨rfl, rfl⟩
theorem r3_small (w : World) (n : Nat) (h : n ≤ 9223372036854775807) : Calls Tryz.prog 178 #[.int .i64 n] w fun e w' => RetN .i64 n e w' ∧ Below w.heap.size w w' := by
 have hd := hid (show nDigits n ≤ 9000 from Nat.le_trans (nDigits_le (k := 19) (by omega) (by omega)) (by omega))
 go_enter Tryz.func178, Tryz.ntmps178
 go_wp2_with fail
 refine (r2_Int _ n h).mono ?_; rintro e w1 ⟨rfl, rfl⟩
 go_wp2_with fail
 refine (r1_Read_num _ n hd.out).mono ?_; rintro e w1 ⟨⟨v, rfl, hv⟩, hb⟩
 go_wp2_with fail
 go_ret
 exact ⟨⟨_, rfl, hv⟩, hb⟩
theorem limbs_two {n k : Nat} (h : n < 2 ^ k) : (limbs n).length ≤ k :=
 limbs_length_le.2 (Nat.lt_of_lt_of_le h (Nat.pow_le_pow_left (by omega) k))
theorem r3_Two (w : World) (n : Nat) (hn : n ≤ 100000) : Calls Tryz.prog 108 #[.int .i64 n] w fun e w' => RetN .i64 (2 ^ n) e w' ∧ Below w.heap.size w w' := by
 go_enter Tryz.func108, Tryz.ntmps108
 go_wp2_with fail
 refine (r3_small _ 1 (by omega)).mono ?_; rintro e w1 ⟨⟨v, rfl, hv⟩, hb⟩
 have V := hid hv; have B := hid hb
 clear hv hb
 go_wp2_with fail
 go_loopw [0, 3] (fun nn o wr => ∃ j : Nat, nn = .int .i64 j ∧ j ≤ n ∧ Hid (IsN .i64 wr o (2 ^ (n - j))) ∧ Hid (Below w.heap.size w wr)) (fun nn o wr => (intOf nn).toNat)
 case atStart => exact ⟨n, rfl, Nat.le_refl _, by rw [Nat.sub_self, Nat.pow_zero]; exact V, B⟩
 case round =>
  obtain ⟨j, rfl, hj, hO, hB⟩ := hrel
  by_cases h0 : 0 < j
  ·have q0 : decide ((0 : Int) < (j : Int)) = true := by simp; omega
   have ll : Hid ((limbs (2 ^ (n - j))).length ≤ 1000000) := Nat.le_trans (limbs_two (k := n - j + 1) (Nat.pow_lt_pow_right (by omega) (by omega))) (by omega)
   have hs : Hid (2 ^ (n - j) + 2 ^ (n - j) = 2 ^ (n - (j - 1))) := by
    show _ = _
    rw [show n - (j - 1) = n - j + 1 by omega, Nat.pow_succ]; omega
   go_wp2_with fail
   refine (r1_Plus _ _ _ _ _ hO.out hO.out ll.out ll.out).mono ?_; rintro e w2 ⟨⟨v2, rfl, hv2⟩, hb2⟩
   have V2 := hid hv2; have B2 := hid (bnext hB.out hb2)
   clear hv2 hb2
   go_wp2_with fail
   go_roundw
   case rel => exact ⟨j - 1, by go_num, by omega, V2.out.cast hs.out, B2⟩
   case measure => simp [intOf] <;> omega
  ·obtain rfl : j = 0 := by omega
   go_wp2_with fail
   go_ret
   exact ⟨⟨_, rfl, hO.out⟩, hB.out⟩
end Go.Proofs.YtlmnpocifldpmaaGreatDoor
namespace Go.Proofs.YtlmnpocifldpmaaGreatDoor
open Go.RowKit
theorem r2_digits (w : World) (s : ByteArray) (hs : s.size ≤ 9223372036854775807) : Calls Tryz.prog 198 #[.string s] w fun e w' =>
 e = .returned (.bool (formB s.data.toList)) ∧ w = w' := by
 by_cases hf : formB s.data.toList = true
 ·by_cases hl : 4000 < s.data.toList.length
  ·have H5 := hid (show errN s.data.toList = 5 from by rw [errN, if_pos hf, if_pos hl])
   have HF := hid hf
   rw [hf]
   clear hf hl
   go_enter Tryz.func198, Tryz.ntmps198
   go_wp2_with fail
   refine (r1_Check _ s hs).mono ?_; rintro e w1 ⟨rfl, rfl⟩
   rw [H5.out]
   go_wp2_with fail
   go_ret
   exact ⟨rfl, rfl⟩
  ·have H5 := hid (show errN s.data.toList = 0 from by rw [errN, if_pos hf, if_neg hl])
   have HF := hid hf
   rw [hf]
   clear hf hl
   go_enter Tryz.func198, Tryz.ntmps198
   go_wp2_with fail
   refine (r1_Check _ s hs).mono ?_; rintro e w1 ⟨rfl, rfl⟩
   rw [H5.out]
   go_wp2_with fail
   go_ret
   exact ⟨rfl, rfl⟩
 ·have H5 := hid (show errN s.data.toList = 3 from by rw [errN, if_neg hf])
  have hf' : formB s.data.toList = false := by simpa using hf
  rw [hf']
  clear hf hf'
  go_enter Tryz.func198, Tryz.ntmps198
  go_wp2_with fail
  refine (r1_Check _ s hs).mono ?_; rintro e w1 ⟨rfl, rfl⟩
  rw [H5.out]
  go_wp2_with fail
  go_ret
  exact ⟨rfl, rfl⟩
theorem r2_integer_minus (w : World) (s : ByteArray) (hs : s.size ≤ 9223372036854775807) (h0 : 0 < s.size) (h1 : s[0] = 45) : Calls Tryz.prog 176 #[.string s] w fun e w' =>
 e = .returned (.tuple #[.bool true, .string (s.extract 1 s.size), .bool (formB (s.extract 1 s.size).data.toList && !decide ((s.extract 1 s.size).data.toList = [48]))]) ∧ w = w' := by
 have q0 : decide ((0 : Int) < (s.size : Int)) = true := by simp; omega
 have q1 : ((s[0].toNat : Int) == 45) = true := by rw [h1]; rfl
 have H0 := hid h1
 clear h1
 have hts : (s.extract 1 s.size).size ≤ 9223372036854775807 := by simp; omega
 obtain ⟨t, ht⟩ : ∃ t, s.extract 1 s.size = t := ⟨_, rfl⟩
 rw [ht] at hts ⊢
 have HT := hid ht
 obtain ⟨f, hf⟩ : ∃ f, formB t.data.toList = f := ⟨_, rfl⟩
 rw [hf]
 have HF := hid hf
 clear ht hf
 go_enter Tryz.func176, Tryz.ntmps176
 go_wp2_with fail
 rw [HT.out]
 refine (r2_digits _ t hts).mono ?_; rintro e w1 ⟨rfl, rfl⟩
 rw [HF.out]
 cases f
 ·go_wp2_with fail
  exact bodyPost_ret (v := .tuple #[.bool true, .string t, .bool false]) (by simp [results, Tryz.results176, go_sem]) rfl ⟨by simp, rfl⟩
 ·go_wp2_with fail
  refine bodyPost_ret (v := .tuple #[.bool true, .string t, .bool (!(t.toList == [48]))]) (by simp [results, Tryz.results176, go_sem]) rfl ⟨?_, rfl⟩
  rw [Go.ByteArray.toList_eq]
  simp
  exact Bool.eq_iff_iff.2 (by simp)
theorem r2_integer_plain (w : World) (s : ByteArray) (hs : s.size ≤ 9223372036854775807) (h1 : ∀ h : 0 < s.size, s[0] ≠ 45) : Calls Tryz.prog 176 #[.string s] w fun e w' =>
 e = .returned (.tuple #[.bool false, .string s, .bool (formB s.data.toList)]) ∧ w = w' := by
 obtain ⟨f, hf⟩ : ∃ f, formB s.data.toList = f := ⟨_, rfl⟩
 rw [hf]
 have HF := hid hf
 clear hf
 by_cases h0 : 0 < s.size
 ·have q0 : decide ((0 : Int) < (s.size : Int)) = true := by simp; omega
  have q1 : ((s[0].toNat : Int) == 45) = false := by
   rw [beq_eq_false_iff_ne]
   intro e
   refine h1 h0 ?_
   have : s[0].toNat = (45 : UInt8).toNat := by simp; omega
   exact UInt8.toNat_inj.1 this
  clear h1
  go_enter Tryz.func176, Tryz.ntmps176
  go_wp2_with fail
  refine (r2_digits _ s hs).mono ?_; rintro e w1 ⟨rfl, rfl⟩
  rw [HF.out]
  cases f
  all_goals
   go_wp2_with fail
   exact bodyPost_ret (v := .tuple #[.bool false, .string s, .bool _]) (by simp [results, Tryz.results176, go_sem]) rfl ⟨rfl, rfl⟩
 ·obtain rfl : s = ⟨#[]⟩ := by
   apply ByteArray.ext
   exact Array.eq_empty_of_size_eq_zero (by have : s.data.size = s.size := rfl; omega)
  clear h1 h0 hs
  go_enter Tryz.func176, Tryz.ntmps176
  go_wp2_with fail
  refine (r2_digits _ ⟨#[]⟩ (Nat.zero_le _)).mono ?_; rintro e w1 ⟨rfl, rfl⟩
  rw [HF.out]
  cases f
  all_goals
   go_wp2_with fail
   exact bodyPost_ret (v := .tuple #[.bool false, .string ⟨#[]⟩, .bool _]) (by simp [results, Tryz.results176, go_sem]) rfl ⟨rfl, rfl⟩
open Go.Lib (decDigits nDigits)
theorem ba_list_iff {a b : ByteArray} : a.data.toList = b.data.toList ↔ a = b := ⟨ba_ext, fun e => by rw [e]⟩
theorem r2_integer (w : World) (s : ByteArray) (hs : s.size ≤ 9223372036854775807) : Calls Tryz.prog 176 #[.string s] w fun e w' =>
 e = .returned (.tuple #[.bool (iM s), .string (iD s), .bool (iB s)]) ∧ w = w' := by
 have hl : s.data.toList.length = s.size := by simp
 by_cases h : ∃ h0 : 0 < s.size, s[0] = 45
 ·obtain ⟨h0, h1⟩ := h
  have hg := byte_get h0
  rw [h1] at hg
  obtain ⟨t, ht⟩ : ∃ t, s.data.toList = 45 :: t := by
   cases hc : s.data.toList with
   | nil => rw [hc] at hg; simp at hg
   | cons b t => rw [hc] at hg; simp at hg; exact ⟨t, by rw [hg]⟩
  have hM : iM s = true := by unfold iM Lib.hasPrefix; rw [ht]; simp [List.isPrefixOf]
  have hD : iD s = s.extract 1 s.size := by
   apply ba_ext
   rw [extract_list, ht]
   unfold iD Lib.trimPrefix
   rw [show Lib.hasPrefix s.data.toList [45] = true from hM, ht]
   have : s.size = t.length + 1 := by rw [← hl, ht]; simp
   simp [this]
  have H := r2_integer_minus w s hs h0 h1
  rw [← hD] at H
  have e : iB s = (formB (iD s).data.toList && !decide ((iD s).data.toList = [48])) := by
   unfold iB fB
   rw [hM, Bool.true_and]
   have : decide (iD s = ⟨#[48]⟩) = decide ((iD s).data.toList = [48]) := decide_eq_decide.2 (by rw [← ba_list_iff])
   rw [this]
  rw [hM, e]
  exact H
 ·have h1 : ∀ h : 0 < s.size, s[0] ≠ 45 := fun h0 e => h ⟨h0, e⟩
  have hM : iM s = false := by
   unfold iM Lib.hasPrefix
   cases hc : s.data.toList with
   | nil => rfl
   | cons b t =>
    have h0 : 0 < s.size := by rw [← hl, hc]; simp
    have hg := byte_get h0
    rw [hc] at hg
    simp at hg
    have h3 : ((45 : UInt8) == b) = false := by rw [beq_eq_false_iff_ne, hg]; exact fun e => h1 h0 e.symm
    simp [List.isPrefixOf, h3]
  have hD : iD s = s := by
   apply ba_ext
   unfold iD Lib.trimPrefix
   rw [show Lib.hasPrefix s.data.toList [45] = false from hM]
   simp
  have H := r2_integer_plain w s hs h1
  have e : iB s = formB s.data.toList := by unfold iB fB; rw [hM, hD]; simp
  rw [hM, hD, e]
  exact H
def WrKey (m : Bool) (B1 B2 T : ByteArray) (x : Int) : Prop :=
 (4000 < B1.size ∧ T = ⟨#[]⟩ ∧ x = 5) ∨ (B1.size ≤ 4000 ∧ 4000 < B2.size ∧ T = ⟨#[]⟩ ∧ x = 5) ∨
 (B1.size ≤ 4000 ∧ B2.size ≤ 4000 ∧ x = 0 ∧ ((m = false ∧ B2 = ⟨#[49]⟩ ∧ T = B1) ∨ (m = true ∧ B2 = ⟨#[49]⟩ ∧ T = ⟨#[45]⟩ ++ B1) ∨ (m = false ∧ ¬ B2 = ⟨#[49]⟩ ∧ T = B1 ++ ⟨#[47]⟩ ++ B2) ∨ (m = true ∧ ¬ B2 = ⟨#[49]⟩ ∧ T = ⟨#[45]⟩ ++ B1 ++ ⟨#[47]⟩ ++ B2)))
theorem r2_Write_walk (w : World) (m : Bool) (N D : Value) (n d : Nat) (B1 B2 T : ByteArray) (x : Int) (hn : IsN .i64 w N n) (hd : IsN .i64 w D d) (hln : (limbs n).length ≤ 1000000) (hld : (limbs d).length ≤ 1000000)
 (e1 : numB n = B1) (e2 : numB d = B2) (key : WrKey m B1 B2 T x) :
 Calls Tryz.prog 59 #[.agg #[.bool m, N, D]] w fun e w' => e = .returned (.tuple #[.string T, .int .i64 x]) ∧ Below w.heap.size w w' := by
 have HN := hid hn; have HD := hid hd; have LN := hid hln; have LD := hid hld; have E1 := hid e1; have E2 := hid e2
 obtain ⟨a1, c1, rfl, _⟩ := hn.openI
 obtain ⟨a2, c2, rfl, _⟩ := hd.openI
 obtain ⟨k1, hk1⟩ : ∃ k, (limbs n).length = k := ⟨_, rfl⟩
 obtain ⟨k2, hk2⟩ : ∃ k, (limbs d).length = k := ⟨_, rfl⟩
 rw [hk1] at HN ⊢
 rw [hk2] at HD ⊢
 clear hn hd hln hld e1 e2 hk1 hk2
 unfold WrKey at key
 rcases key with ⟨h1, rfl, rfl⟩ | ⟨h1, h2, rfl, rfl⟩ | ⟨h1, h2, rfl, ⟨rfl, rfl, rfl⟩ | ⟨rfl, rfl, rfl⟩ | ⟨rfl, h3, rfl⟩ | ⟨rfl, h3, rfl⟩⟩
 ·have q0 : decide ((4000 : Int) < (B1.size : Int)) = true := by simp; omega
  clear h1
  go_enter Tryz.func59, Tryz.ntmps59
  go_wp2_with fail
  obtain ⟨W, hW⟩ : ∃ W, w.alloc (.cells #[.bool m, .slice a1 k1 c1, .slice a2 k2 c2] 100) = W := ⟨_, rfl⟩
  rw [hW]
  have X0 : Below w.heap.size w W := by rw [← hW]; exact (Below.refl _ _).alloc (Nat.le_refl _) _
  have Y0 : Blk W w.heap.size #[.bool m, .slice a1 k1 c1, .slice a2 k2 c2] 100 := by rw [← hW]; exact Blk.new w _ _
  have K : Hid (∀ w', Below W.heap.size W w' → w'.cell? ⟨w.heap.size, 0, none⟩ = some (.bool m) ∧ w'.cell? ⟨w.heap.size, 1, none⟩ = some (.slice a1 k1 c1) ∧ w'.cell? ⟨w.heap.size, 2, none⟩ = some (.slice a2 k2 c2)) :=
   fun w' hb => ⟨(Y0.call hb).cell 0, (Y0.call hb).cell 1, (Y0.call hb).cell 2⟩
  have HX0 := hid X0
  obtain ⟨k0, k1', k2'⟩ := K W (Below.refl _ _)
  have XN := hid (HN.out.call HX0.out); have XD := hid (HD.out.call HX0.out)
  clear Y0 X0 hW
  go_region_held3 (fun w' => w'.cell? ⟨w.heap.size, 0, none⟩ = some (.bool m) ∧ w'.cell? ⟨w.heap.size, 1, none⟩ = some (.slice a1 k1 c1) ∧ w'.cell? ⟨w.heap.size, 2, none⟩ = some (.slice a2 k2 c2))
   (first
    | exact K.out _ (Below.refl _ _).drew
    | exact K.out _ bb2.out
    | exact K.out _ bb1.out)
   (first
    | (go_at_call_of 107 (Value.slice a1 k1 c1); refine (r1_Write _ _ n (XN.out.call (by first | exact bb2.out | exact (Below.refl _ _).drew)) LN.out).mono ?_; rintro e w1 ⟨rfl, hb1⟩; rw [numV_eq, E1.out]; have bb1 := hid (bnext (by first | exact bb2.out | exact (Below.refl _ _).drew) hb1))
    | (go_at_call_of 107 (Value.slice a2 k2 c2); refine (r1_Write _ _ d (XD.out.call (by first | exact bb1.out | exact (Below.refl _ _).drew)) LD.out).mono ?_; rintro e w2 ⟨rfl, hb2⟩; rw [numV_eq, E2.out]; have bb2 := hid (bnext (by first | exact bb1.out | exact (Below.refl _ _).drew) hb2)))
  go_wp2_with fail
  go_ret2
  exact ⟨rfl, bnext HX0.out bb2.out⟩
 ·have q0 : decide ((4000 : Int) < (B1.size : Int)) = false := by simp; omega
  have q1 : decide ((4000 : Int) < (B2.size : Int)) = true := by simp; omega
  clear h1 h2
  go_enter Tryz.func59, Tryz.ntmps59
  go_wp2_with fail
  obtain ⟨W, hW⟩ : ∃ W, w.alloc (.cells #[.bool m, .slice a1 k1 c1, .slice a2 k2 c2] 100) = W := ⟨_, rfl⟩
  rw [hW]
  have X0 : Below w.heap.size w W := by rw [← hW]; exact (Below.refl _ _).alloc (Nat.le_refl _) _
  have Y0 : Blk W w.heap.size #[.bool m, .slice a1 k1 c1, .slice a2 k2 c2] 100 := by rw [← hW]; exact Blk.new w _ _
  have K : Hid (∀ w', Below W.heap.size W w' → w'.cell? ⟨w.heap.size, 0, none⟩ = some (.bool m) ∧ w'.cell? ⟨w.heap.size, 1, none⟩ = some (.slice a1 k1 c1) ∧ w'.cell? ⟨w.heap.size, 2, none⟩ = some (.slice a2 k2 c2)) :=
   fun w' hb => ⟨(Y0.call hb).cell 0, (Y0.call hb).cell 1, (Y0.call hb).cell 2⟩
  have HX0 := hid X0
  obtain ⟨k0, k1', k2'⟩ := K W (Below.refl _ _)
  have XN := hid (HN.out.call HX0.out); have XD := hid (HD.out.call HX0.out)
  clear Y0 X0 hW
  go_region_held3 (fun w' => w'.cell? ⟨w.heap.size, 0, none⟩ = some (.bool m) ∧ w'.cell? ⟨w.heap.size, 1, none⟩ = some (.slice a1 k1 c1) ∧ w'.cell? ⟨w.heap.size, 2, none⟩ = some (.slice a2 k2 c2))
   (first
    | exact K.out _ (Below.refl _ _).drew
    | exact K.out _ bb2.out
    | exact K.out _ bb1.out)
   (first
    | (go_at_call_of 107 (Value.slice a1 k1 c1); refine (r1_Write _ _ n (XN.out.call (by first | exact bb2.out | exact (Below.refl _ _).drew)) LN.out).mono ?_; rintro e w1 ⟨rfl, hb1⟩; rw [numV_eq, E1.out]; have bb1 := hid (bnext (by first | exact bb2.out | exact (Below.refl _ _).drew) hb1))
    | (go_at_call_of 107 (Value.slice a2 k2 c2); refine (r1_Write _ _ d (XD.out.call (by first | exact bb1.out | exact (Below.refl _ _).drew)) LD.out).mono ?_; rintro e w2 ⟨rfl, hb2⟩; rw [numV_eq, E2.out]; have bb2 := hid (bnext (by first | exact bb1.out | exact (Below.refl _ _).drew) hb2)))
  go_wp2_with fail
  go_ret2
  exact ⟨rfl, bnext HX0.out bb2.out⟩
 ·have q0 : decide ((4000 : Int) < (T.size : Int)) = false := by simp; omega
  clear h2
  go_enter Tryz.func59, Tryz.ntmps59
  go_wp2_with fail
  obtain ⟨W, hW⟩ : ∃ W, w.alloc (.cells #[.bool false, .slice a1 k1 c1, .slice a2 k2 c2] 100) = W := ⟨_, rfl⟩
  rw [hW]
  have X0 : Below w.heap.size w W := by rw [← hW]; exact (Below.refl _ _).alloc (Nat.le_refl _) _
  have Y0 : Blk W w.heap.size #[.bool false, .slice a1 k1 c1, .slice a2 k2 c2] 100 := by rw [← hW]; exact Blk.new w _ _
  have K : Hid (∀ w', Below W.heap.size W w' → w'.cell? ⟨w.heap.size, 0, none⟩ = some (.bool false) ∧ w'.cell? ⟨w.heap.size, 1, none⟩ = some (.slice a1 k1 c1) ∧ w'.cell? ⟨w.heap.size, 2, none⟩ = some (.slice a2 k2 c2)) :=
   fun w' hb => ⟨(Y0.call hb).cell 0, (Y0.call hb).cell 1, (Y0.call hb).cell 2⟩
  have HX0 := hid X0
  obtain ⟨k0, k1', k2'⟩ := K W (Below.refl _ _)
  have XN := hid (HN.out.call HX0.out); have XD := hid (HD.out.call HX0.out)
  clear Y0 X0 hW
  go_region_held3 (fun w' => w'.cell? ⟨w.heap.size, 0, none⟩ = some (.bool false) ∧ w'.cell? ⟨w.heap.size, 1, none⟩ = some (.slice a1 k1 c1) ∧ w'.cell? ⟨w.heap.size, 2, none⟩ = some (.slice a2 k2 c2))
   (first
    | exact K.out _ (Below.refl _ _).drew
    | exact K.out _ bb2.out
    | exact K.out _ bb1.out)
   (first
    | (go_at_call_of 107 (Value.slice a1 k1 c1); refine (r1_Write _ _ n (XN.out.call (by first | exact bb2.out | exact (Below.refl _ _).drew)) LN.out).mono ?_; rintro e w1 ⟨rfl, hb1⟩; rw [numV_eq, E1.out]; have bb1 := hid (bnext (by first | exact bb2.out | exact (Below.refl _ _).drew) hb1))
    | (go_at_call_of 107 (Value.slice a2 k2 c2); refine (r1_Write _ _ d (XD.out.call (by first | exact bb1.out | exact (Below.refl _ _).drew)) LD.out).mono ?_; rintro e w2 ⟨rfl, hb2⟩; rw [numV_eq, E2.out]; have bb2 := hid (bnext (by first | exact bb1.out | exact (Below.refl _ _).drew) hb2)))
  go_wp2_with fail
  go_ret2
  exact ⟨rfl, bnext HX0.out bb2.out⟩
 ·have q0 : decide ((4000 : Int) < (B1.size : Int)) = false := by simp; omega
  clear h2
  go_enter Tryz.func59, Tryz.ntmps59
  go_wp2_with fail
  obtain ⟨W, hW⟩ : ∃ W, w.alloc (.cells #[.bool true, .slice a1 k1 c1, .slice a2 k2 c2] 100) = W := ⟨_, rfl⟩
  rw [hW]
  have X0 : Below w.heap.size w W := by rw [← hW]; exact (Below.refl _ _).alloc (Nat.le_refl _) _
  have Y0 : Blk W w.heap.size #[.bool true, .slice a1 k1 c1, .slice a2 k2 c2] 100 := by rw [← hW]; exact Blk.new w _ _
  have K : Hid (∀ w', Below W.heap.size W w' → w'.cell? ⟨w.heap.size, 0, none⟩ = some (.bool true) ∧ w'.cell? ⟨w.heap.size, 1, none⟩ = some (.slice a1 k1 c1) ∧ w'.cell? ⟨w.heap.size, 2, none⟩ = some (.slice a2 k2 c2)) :=
   fun w' hb => ⟨(Y0.call hb).cell 0, (Y0.call hb).cell 1, (Y0.call hb).cell 2⟩
  have HX0 := hid X0
  obtain ⟨k0, k1', k2'⟩ := K W (Below.refl _ _)
  have XN := hid (HN.out.call HX0.out); have XD := hid (HD.out.call HX0.out)
  clear Y0 X0 hW
  go_region_held3 (fun w' => w'.cell? ⟨w.heap.size, 0, none⟩ = some (.bool true) ∧ w'.cell? ⟨w.heap.size, 1, none⟩ = some (.slice a1 k1 c1) ∧ w'.cell? ⟨w.heap.size, 2, none⟩ = some (.slice a2 k2 c2))
   (first
    | exact K.out _ (Below.refl _ _).drew
    | exact K.out _ bb2.out
    | exact K.out _ bb1.out)
   (first
    | (go_at_call_of 107 (Value.slice a1 k1 c1); refine (r1_Write _ _ n (XN.out.call (by first | exact bb2.out | exact (Below.refl _ _).drew)) LN.out).mono ?_; rintro e w1 ⟨rfl, hb1⟩; rw [numV_eq, E1.out]; have bb1 := hid (bnext (by first | exact bb2.out | exact (Below.refl _ _).drew) hb1))
    | (go_at_call_of 107 (Value.slice a2 k2 c2); refine (r1_Write _ _ d (XD.out.call (by first | exact bb1.out | exact (Below.refl _ _).drew)) LD.out).mono ?_; rintro e w2 ⟨rfl, hb2⟩; rw [numV_eq, E2.out]; have bb2 := hid (bnext (by first | exact bb1.out | exact (Below.refl _ _).drew) hb2)))
  go_wp2_with fail
  go_ret2
  exact ⟨rfl, bnext HX0.out bb2.out⟩
 ·have q0 : decide ((4000 : Int) < (B1.size : Int)) = false := by simp; omega
  have q1 : decide ((4000 : Int) < (B2.size : Int)) = false := by simp; omega
  have i3 := ne_lit (l := [49]) h3
  go_enter Tryz.func59, Tryz.ntmps59
  go_wp2_with fail
  obtain ⟨W, hW⟩ : ∃ W, w.alloc (.cells #[.bool false, .slice a1 k1 c1, .slice a2 k2 c2] 100) = W := ⟨_, rfl⟩
  rw [hW]
  have X0 : Below w.heap.size w W := by rw [← hW]; exact (Below.refl _ _).alloc (Nat.le_refl _) _
  have Y0 : Blk W w.heap.size #[.bool false, .slice a1 k1 c1, .slice a2 k2 c2] 100 := by rw [← hW]; exact Blk.new w _ _
  have K : Hid (∀ w', Below W.heap.size W w' → w'.cell? ⟨w.heap.size, 0, none⟩ = some (.bool false) ∧ w'.cell? ⟨w.heap.size, 1, none⟩ = some (.slice a1 k1 c1) ∧ w'.cell? ⟨w.heap.size, 2, none⟩ = some (.slice a2 k2 c2)) :=
   fun w' hb => ⟨(Y0.call hb).cell 0, (Y0.call hb).cell 1, (Y0.call hb).cell 2⟩
  have HX0 := hid X0
  obtain ⟨k0, k1', k2'⟩ := K W (Below.refl _ _)
  have XN := hid (HN.out.call HX0.out); have XD := hid (HD.out.call HX0.out)
  clear Y0 X0 hW
  go_region_held3 (fun w' => w'.cell? ⟨w.heap.size, 0, none⟩ = some (.bool false) ∧ w'.cell? ⟨w.heap.size, 1, none⟩ = some (.slice a1 k1 c1) ∧ w'.cell? ⟨w.heap.size, 2, none⟩ = some (.slice a2 k2 c2))
   (first
    | exact K.out _ (Below.refl _ _).drew
    | exact K.out _ bb2.out
    | exact K.out _ bb1.out)
   (first
    | (go_at_call_of 107 (Value.slice a1 k1 c1); refine (r1_Write _ _ n (XN.out.call (by first | exact bb2.out | exact (Below.refl _ _).drew)) LN.out).mono ?_; rintro e w1 ⟨rfl, hb1⟩; rw [numV_eq, E1.out]; have bb1 := hid (bnext (by first | exact bb2.out | exact (Below.refl _ _).drew) hb1))
    | (go_at_call_of 107 (Value.slice a2 k2 c2); refine (r1_Write _ _ d (XD.out.call (by first | exact bb1.out | exact (Below.refl _ _).drew)) LD.out).mono ?_; rintro e w2 ⟨rfl, hb2⟩; rw [numV_eq, E2.out]; have bb2 := hid (bnext (by first | exact bb1.out | exact (Below.refl _ _).drew) hb2)))
  go_wp2_with fail
  go_ret2
  exact ⟨rfl, bnext HX0.out bb2.out⟩
 ·have q0 : decide ((4000 : Int) < (B1.size : Int)) = false := by simp; omega
  have q1 : decide ((4000 : Int) < (B2.size : Int)) = false := by simp; omega
  have i3 := ne_lit (l := [49]) h3
  go_enter Tryz.func59, Tryz.ntmps59
  go_wp2_with fail
  obtain ⟨W, hW⟩ : ∃ W, w.alloc (.cells #[.bool true, .slice a1 k1 c1, .slice a2 k2 c2] 100) = W := ⟨_, rfl⟩
  rw [hW]
  have X0 : Below w.heap.size w W := by rw [← hW]; exact (Below.refl _ _).alloc (Nat.le_refl _) _
  have Y0 : Blk W w.heap.size #[.bool true, .slice a1 k1 c1, .slice a2 k2 c2] 100 := by rw [← hW]; exact Blk.new w _ _
  have K : Hid (∀ w', Below W.heap.size W w' → w'.cell? ⟨w.heap.size, 0, none⟩ = some (.bool true) ∧ w'.cell? ⟨w.heap.size, 1, none⟩ = some (.slice a1 k1 c1) ∧ w'.cell? ⟨w.heap.size, 2, none⟩ = some (.slice a2 k2 c2)) :=
   fun w' hb => ⟨(Y0.call hb).cell 0, (Y0.call hb).cell 1, (Y0.call hb).cell 2⟩
  have HX0 := hid X0
  obtain ⟨k0, k1', k2'⟩ := K W (Below.refl _ _)
  have XN := hid (HN.out.call HX0.out); have XD := hid (HD.out.call HX0.out)
  clear Y0 X0 hW
  go_region_held3 (fun w' => w'.cell? ⟨w.heap.size, 0, none⟩ = some (.bool true) ∧ w'.cell? ⟨w.heap.size, 1, none⟩ = some (.slice a1 k1 c1) ∧ w'.cell? ⟨w.heap.size, 2, none⟩ = some (.slice a2 k2 c2))
   (first
    | exact K.out _ (Below.refl _ _).drew
    | exact K.out _ bb2.out
    | exact K.out _ bb1.out)
   (first
    | (go_at_call_of 107 (Value.slice a1 k1 c1); refine (r1_Write _ _ n (XN.out.call (by first | exact bb2.out | exact (Below.refl _ _).drew)) LN.out).mono ?_; rintro e w1 ⟨rfl, hb1⟩; rw [numV_eq, E1.out]; have bb1 := hid (bnext (by first | exact bb2.out | exact (Below.refl _ _).drew) hb1))
    | (go_at_call_of 107 (Value.slice a2 k2 c2); refine (r1_Write _ _ d (XD.out.call (by first | exact bb1.out | exact (Below.refl _ _).drew)) LD.out).mono ?_; rintro e w2 ⟨rfl, hb2⟩; rw [numV_eq, E2.out]; have bb2 := hid (bnext (by first | exact bb1.out | exact (Below.refl _ _).drew) hb2)))
  go_wp2_with fail
  go_ret2
  exact ⟨rfl, bnext HX0.out bb2.out⟩
theorem numB_is1 {d : Nat} : numB d = ⟨#[49]⟩ ↔ d = 1 := by
 constructor
 ·intro h
  rw [← numB_one] at h
  rcases Nat.decEq d 1 with h1 | h1
  ·exact absurd h (numB_ne h1)
  ·exact h1
 ·rintro rfl; exact numB_one
theorem r2_Write (w : World) (v : Value) (q : Rat) (h : IsQ .i64 w v q) (h1 : (limbs q.num.natAbs).length ≤ 1000000) (h2 : (limbs q.den).length ≤ 1000000) :
 Calls Tryz.prog 59 #[v] w fun e w' => e = .returned (.tuple #[.string (outB q), .int .i64 (outE q)]) ∧ Below w.heap.size w w' := by
 obtain ⟨N, D, rfl, hn, hd⟩ := h.ex
 refine r2_Write_walk w _ N D q.num.natAbs q.den (numB q.num.natAbs) (numB q.den) (outB q) (outE q) hn hd h1 h2 rfl rfl ?_
 unfold WrKey outB outE
 rw [numB_size, numB_size]
 by_cases o1 : 4000 < nDigits q.num.natAbs
 ·have ho : ovQ q := .inl o1
  rw [if_pos ho, if_pos ho]
  exact .inl ⟨o1, rfl, rfl⟩
 ·by_cases o2 : 4000 < nDigits q.den
  ·have ho : ovQ q := .inr o2
   rw [if_pos ho, if_pos ho]
   exact .inr (.inl ⟨by omega, o2, rfl, rfl⟩)
  ·have ho : ¬ ovQ q := fun h => h.elim o1 o2
   rw [if_neg ho, if_neg ho]
   refine .inr (.inr ⟨by omega, by omega, rfl, ?_⟩)
   unfold txQ
   rw [numB_is1]
   generalize decide (q.num < 0) = m
   by_cases hd1 : q.den = 1
   ·rw [hd1]
    cases m
    ·exact .inl ⟨rfl, rfl, ba_ext (by simp [txB, numB])⟩
    ·exact .inr (.inl ⟨rfl, rfl, ba_ext (by simp [txB, numB])⟩)
   ·cases m
    ·exact .inr (.inr (.inl ⟨rfl, hd1, ba_ext (by simp [txB, numB, hd1])⟩))
    ·exact .inr (.inr (.inr ⟨rfl, hd1, ba_ext (by simp [txB, numB, hd1])⟩))
theorem isN_one (w : World) : IsN .i64 (w.alloc (.cells #[.int .i64 1] 3)) (.slice (some ⟨w.heap.size, 0, none⟩) 1 1) 1 := by
 unfold IsN
 rw [limbs_one]
 exact Row.of_blk (b := w.heap.size) (n := 1) (c := 1) (cs := #[.int .i64 1]) (Blk.new w _ _) rfl (by unfold maxLen; omega) (fun i x hx => by simpa [ints] using hx) (Nat.le_refl _) (by unfold maxLen; omega)
end Go.Proofs.YtlmnpocifldpmaaGreatDoor
namespace Go.Proofs.YtlmnpocifldpmaaGreatDoor
open Go.RowKit
def Ret2N (k : IntKind) (n m : Nat) (e : Ending) (w' : World) : Prop := ∃ v, e = .returned (.tuple #[v, .int k (m : Int)]) ∧ IsN k w' v n
theorem r1_short (w : World) (v : Value) (a d : Nat) (ha : IsN .i64 w v a) (hd0 : 0 < d) (hd1 : d < 1000000000) (hla : (limbs a).length ≤ 1000000) :
 Calls Tryz.prog 253 #[v, .int .i64 d] w fun e w' => Ret2N .i64 (a / d) (a % d) e w' ∧ Below w.heap.size w w' := by
 obtain ⟨a1, c1, rfl, h1, h2, h3⟩ := ha.openI
 have H3 := hid h3; clear h3 ha
 obtain ⟨n, ea⟩ : ∃ n, (limbs a).length = n := ⟨_, rfl⟩
 rw [ea] at h1 hla ⊢
 have HA := hid ea
 clear ea
 have hmk := fun W => make_limbs n (by omega) W
 have hdz : ((d : Int) == 0) = false := by simp; omega
 go_enter Tryz.func253, Tryz.ntmps253
 go_wp2_with fail
 clear hmk
 go_loopw [7, 8, 9] (fun rr ii nn wr => ∃ (j r : Nat) (t : Int) (o : List Nat), rr = .int .i64 r ∧ ii = .int .i64 t ∧ t = (j : Int) - 1 ∧ j ≤ n ∧ Hid (SmallI a d j r o) ∧ Hid (Arr .i64 3 wr w.heap.size o) ∧ Hid (Below w.heap.size w wr)) (fun _ ii _ _ => (intOf ii + 1).toNat)
 case atStart => exact ⟨n, 0, _, _, rfl, rfl, rfl, Nat.le_refl _, by have := SmallI.start (a := a) hd0; rw [HA.out] at this; exact this, Arr.made w .i64 3 n, (Below.refl _ _).alloc (Nat.le_refl _) _⟩
 case round =>
  obtain ⟨j, r, t, o, rfl, rfl, ht, hj, hS, hO, hB⟩ := hrel
  have hsz : Hid (o.length = n) := by rw [Hid, hS.out.len, HA.out]
  cases j with
  | zero =>
   obtain rfl : t = -1 := by omega
   clear ht
   have hv := hid hS.out.done
   have hr := hid (show Row wr (.slice (some ⟨w.heap.size, 0, none⟩) n n) (ints .i64 o) from by
    have := hO.out.row (n := n) (c := n) (by rw [hsz.out]; exact Nat.le_refl _) (Nat.le_refl _) (by unfold maxLen; omega)
    rwa [List.take_of_length_le (by rw [hsz.out]; exact Nat.le_refl _)] at this)
   go_wp2_with (go_at_call 109; refine (r1_trim _ _ o hS.out.sm hr.out).mono ?_; rintro e w1 ⟨⟨v1, rfl, hv1⟩, rfl⟩)
   go_ret2
   exact ⟨⟨v1, ret_tup (by rw [hv.out.2]), by rw [← hv.out.1]; exact hv1⟩, hB.out⟩
  | succ j =>
   obtain rfl : t = (j : Int) := by omega
   clear ht
   obtain ⟨x, hx⟩ : ∃ x, (limbs a)[j]? = some x := ⟨_, List.getElem?_eq_getElem (by rw [HA.out]; omega)⟩
   obtain ⟨g, og, rfl, hg, hc⟩ := H3.out _ x hx
   have d1 := (hB.out.cell (p := ⟨g, og + j, none⟩) hg).trans hc
   obtain ⟨z, hz⟩ : ∃ z, o[j]? = some z := ⟨_, List.getElem?_eq_getElem (by rw [hsz.out]; omega)⟩
   have d3 := hO.out.cell hz
   have d4 := hO.out.free j
   have HN := hid (hS.out.next hx)
   have hxl := (sm_limbs a).get hx
   have hrl := hS.out.rd
   clear hx hc hz
   go_wp2_with fail
   go_roundw
   case rel =>
    have e1 : (((r : Int) * 1000000000 + x) / d) = (((r * 1000000000 + x) / d : Nat) : Int) := by rw [Int.natCast_ediv]; rfl
    have e2 : (((r : Int) * 1000000000 + x) % d) = (((r * 1000000000 + x) % d : Nat) : Int) := by rw [Int.natCast_emod]; rfl
    rw [e1]
    exact ⟨j, _, _, _, by rw [e2], rfl, by omega, by omega, HN, hO.out.set j _, below_set hB.out (Nat.le_refl _) _⟩
   case measure => simp [intOf] <;> omega
end Go.Proofs.YtlmnpocifldpmaaGreatDoor
