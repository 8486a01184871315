/- Texts that the proof rests on, merged: Fr1, Fr3, Pl2, Pl3, Pn3, Sy0, Krw, R1l, R1m, R2d, R2e, R2f, R2i, R1b, R1d, R1k, R1n, R1q, R1f, R1g, R1h, R1i, R1j, R2a, QD. -/
import Derived.Test.YtlimaehdmcnjaaaGreatDoorMf3
import Derived.Deep.RegionHeld3
import Derived.WalkSmall
import Derived.Maps.Own
import Derived.Maps.OwnIn
import Derived.Sort.CutIn
import Derived.Maps.AppendAt
import Derived.Laws.IdiomStrings
import Derived.WalkSpells
import Derived.IntWalk
import Derived.Deep.DeepCutAuto
import Derived.Deep.CutBlock
set_option linter.unusedVariables false
set_option linter.unusedSimpArgs false
set_option linter.unusedSectionVars false
set_option maxRecDepth 100000
set_option maxHeartbeats 8000000
namespace Go.Proofs.YtlimaehdmcnjaaaGreatDoor
open Go.RowKit
open Go.Lib (decDigits nDigits)
theorem f_Zero (w : World) : Calls Tryz.prog 44 #[] w fun e w' => RetQ .u64 0 e w' ∧ Below w.heap.size w w' := by
 go_enter Tryz.func44, Tryz.ntmps44
 go_wp2_with fail
 refine (l_Of _ 1 (by omega)).mono ?_; rintro e w1 ⟨⟨v1, rfl, hv1⟩, hb1⟩
 obtain ⟨a3, c3, rfl, _⟩ := hv1.openI
 have HV := hid hv1
 have HB := hid (show Blk w1 w.heap.size #[.bool false, .slice none 0 0, .slice none 0 0] 57 from (Blk.new w _ _).call hb1)
 have d0 := HB.out.cell 0
 have d1 := HB.out.cell 1
 have d2 := HB.out.cell 2
 have e0 := HB.out.free 0
 have e1 := HB.out.free 1
 have e2 := HB.out.free 2
 have HBB := hid hb1
 clear hb1 hv1
 simp at d0 d1 d2
 go_wp2_with fail
 obtain ⟨s1, s2⟩ := set3 HB.out false none a3 0 0 (limbs 1).length c3
 have f0 := s2.cell 0
 have f1 := s2.cell 1
 have f2 := s2.cell 2
 simp at f0 f1 f2
 refine bodyPost_ret (v := .agg #[.bool false, .slice none 0 0, .slice a3 (limbs 1).length c3]) (by simp [results, Tryz.results44, go_sem, f0, f1, f2]) rfl ⟨⟨_, rfl, IsQ.zero_ (s1 _ _ _ (IsN.zero _ _)) (s1 _ _ _ HV.out)⟩, ?_⟩
 exact (((((Below.refl _ _).alloc (Nat.le_refl _) _).trans (HBB.out.mono (by simp))).setCell (Nat.le_refl _) _).setCell (Nat.le_refl _) _).setCell (Nat.le_refl _) _
theorem qmk_red {m : Bool} {n d : Nat} (hn : 0 < n) (hd : 0 < d) {k : IntKind} {w : World} {N D : Value} (hg : Nat.gcd n d = 1) (h1 : IsN k w N n) (h2 : IsN k w D d) : IsQ k w (.agg #[.bool m, N, D]) (qmk m n d) :=
 IsQ.mk' hn hd (by rw [hg, Nat.div_one]; exact h1) (by rw [hg, Nat.div_one]; exact h2)
theorem f_Make (w : World) (m : Bool) (v u : Value) (n d : Nat) (hn : IsN .u64 w v n) (hd : IsN .u64 w u d) (h0 : 0 < d) (hln : (limbs n).length ≤ 1000000) (hld : (limbs d).length ≤ 1000000) :
 Calls Tryz.prog 98 #[.bool m, v, u] w fun e w' => RetQ .u64 (qmk m n d) e w' ∧ Below w.heap.size w w' := by
 have HN := hid hn; have HD := hid hd
 obtain ⟨a1, c1, rfl, _⟩ := hn.openI
 obtain ⟨a2, c2, rfl, _⟩ := hd.openI
 obtain ⟨k1, hk1⟩ : ∃ k, (limbs n).length = k := ⟨_, rfl⟩
 obtain ⟨k2, hk2⟩ : ∃ k, (limbs d).length = k := ⟨_, rfl⟩
 have LN := hid hln; have LD := hid hld; have H0 := hid h0
 rw [hk1] at HN ⊢
 rw [hk2] at HD ⊢
 have b0 := hid ((Below.refl w.heap.size w).alloc (Nat.le_refl _) (.cells #[.bool false, .slice none 0 0, .slice none 0 0] 57))
 have x0 := hid (Blk.new w #[.bool false, .slice none 0 0, .slice none 0 0] 57)
 have N0 := hid (HN.out.call b0.out); have D0 := hid (HD.out.call b0.out)
 clear hn hd hln hld h0 hk1 hk2
 rcases Nat.eq_zero_or_pos n with rfl | hp
 ·have hq := hid (qmk_zero m d)
  rw [hq.out]
  have hz : isZ 0 = true := rfl
  go_enter Tryz.func98, Tryz.ntmps98
  go_wp2_with fail
  refine (l_Zero _ _ _ N0.out).mono ?_; rintro e w1 ⟨rfl, rfl⟩
  rw [hz]
  clear hz
  go_wp2_with fail
  refine (f_Zero _).mono ?_; rintro e w1 ⟨⟨v1, rfl, hv1⟩, hb1⟩
  obtain ⟨M, D, rfl, h2, h3⟩ := hv1.ex
  obtain ⟨a3, c3, rfl, _⟩ := h2.openI
  obtain ⟨a4, c4, rfl, _⟩ := h3.openI
  have hm : decide ((0 : Rat).num < 0) = false := rfl
  rw [hm]
  have HB := hid (x0.out.call hb1)
  have BB := hid (bnext b0.out hb1)
  have d0 := HB.out.cell 0
  have d1 := HB.out.cell 1
  have d2 := HB.out.cell 2
  have e0 := HB.out.free 0
  have e1 := HB.out.free 1
  have e2 := HB.out.free 2
  have H2 := hid h2; have H3 := hid h3
  clear hb1 hv1 h2 h3 hm
  simp at d0 d1 d2
  obtain ⟨l1, hl1⟩ : ∃ k, (limbs (0 : Rat).num.natAbs).length = k := ⟨_, rfl⟩
  obtain ⟨l2, hl2⟩ : ∃ k, (limbs (0 : Rat).den).length = k := ⟨_, rfl⟩
  rw [hl1] at H2 ⊢
  rw [hl2] at H3 ⊢
  clear hl1 hl2
  go_wp2_with fail
  obtain ⟨s1, s2⟩ := set3 HB.out false a3 a4 l1 c3 l2 c4
  have f0 := s2.cell 0
  have f1 := s2.cell 1
  have f2 := s2.cell 2
  simp at f0 f1 f2
  refine bodyPost_ret (v := .agg #[.bool false, .slice a3 l1 c3, .slice a4 l2 c4]) (by simp [results, Tryz.results98, go_sem, f0, f1, f2]) rfl ⟨⟨_, rfl, ⟨_, _, rfl, s1 _ _ _ H2.out, s1 _ _ _ H3.out⟩⟩, ?_⟩
  exact ((BB.out.setCell (Nat.le_refl _) _).setCell (Nat.le_refl _) _).setCell (Nat.le_refl _) _
 ·have hz : isZ n = false := by unfold isZ; simpa using (by omega : n ≠ 0)
  have HP := hid hp
  clear hp
  by_cases h1 : d = 1
  ·have ho : isO d = true := isO_iff.2 h1
   have HG := hid (show Nat.gcd n d = 1 by rw [h1, Nat.gcd_one_right])
   clear h1
   go_enter Tryz.func98, Tryz.ntmps98
   go_wp2_with fail
   refine (l_Zero _ _ _ N0.out).mono ?_; rintro e w1 ⟨rfl, rfl⟩
   rw [hz]
   clear hz
   go_wp2_with fail
   refine (l_One _ _ _ D0.out).mono ?_; rintro e w1 ⟨rfl, rfl⟩
   rw [ho]
   clear ho
   go_wp2_with fail
   have hB := Blk.new w #[.bool m, .slice a1 k1 c1, .slice a2 k2 c2] 57
   have f0 := hB.cell 0
   have f1 := hB.cell 1
   have f2 := hB.cell 2
   simp at f0 f1 f2
   have b1 := (Below.refl w.heap.size w).alloc (Nat.le_refl _) (.cells #[.bool m, .slice a1 k1 c1, .slice a2 k2 c2] 57)
   refine bodyPost_ret (v := .agg #[.bool m, .slice a1 k1 c1, .slice a2 k2 c2]) (by simp [results, Tryz.results98, go_sem]) rfl ⟨⟨_, rfl, qmk_red HP.out H0.out HG.out (HN.out.call b1) (HD.out.call b1)⟩, b1⟩
  ·have ho : isO d = false := by unfold isO; simpa using h1
   obtain ⟨g, hg⟩ : ∃ g, Nat.gcd n d = g := ⟨_, rfl⟩
   have hgp : 0 < g := hg ▸ Nat.gcd_pos_of_pos_left d HP.out
   have HG := hid hg; have HGP := hid hgp
   clear h1 hg hgp
   go_enter Tryz.func98, Tryz.ntmps98
   go_wp2_with fail
   refine (l_Zero _ _ _ N0.out).mono ?_; rintro e w1 ⟨rfl, rfl⟩
   rw [hz]
   clear hz
   go_wp2_with fail
   refine (l_One _ _ _ D0.out).mono ?_; rintro e w1 ⟨rfl, rfl⟩
   rw [ho]
   clear ho
   go_wp2_with fail
   refine (l_Gcd _ _ _ _ _ N0.out D0.out LN.out LD.out).mono ?_
   rintro e w1 ⟨⟨v1, rfl, hv1⟩, hb1⟩
   rw [HG.out] at hv1
   have x1 := hid (x0.out.call hb1)
   have b1 := hid (bnext b0.out hb1)
   have N1 := hid (N0.out.call hb1); have D1 := hid (D0.out.call hb1); have G1 := hid hv1
   clear hb1 hv1
   obtain ⟨a5, c5, rfl, _⟩ := G1.out.openI
   obtain ⟨k5, hk5⟩ : ∃ k, (limbs g).length = k := ⟨_, rfl⟩
   rw [hk5] at G1 ⊢
   clear hk5
   go_wp2_with fail
   refine (l_One _ _ _ G1.out).mono ?_; rintro e w2 ⟨rfl, rfl⟩
   by_cases hg1 : g = 1
   ·have ho : isO g = true := isO_iff.2 hg1
    have HG1 := hid (show Nat.gcd n d = 1 by rw [HG.out, hg1])
    rw [ho]
    have d0 := x1.out.cell 0
    have d1 := x1.out.cell 1
    have d2 := x1.out.cell 2
    have e0 := x1.out.free 0
    have e1 := x1.out.free 1
    have e2 := x1.out.free 2
    simp at d0 d1 d2
    clear ho hg1
    go_wp2_with fail
    obtain ⟨s1, s2⟩ := set3 x1.out m a1 a2 k1 c1 k2 c2
    have f0 := s2.cell 0
    have f1 := s2.cell 1
    have f2 := s2.cell 2
    simp at f0 f1 f2
    refine bodyPost_ret (v := .agg #[.bool m, .slice a1 k1 c1, .slice a2 k2 c2]) (by simp [results, Tryz.results98, go_sem, f0, f1, f2]) rfl ⟨⟨_, rfl, qmk_red HP.out H0.out HG1.out (s1 _ _ _ N1.out) (s1 _ _ _ D1.out)⟩, ?_⟩
    exact ((b1.out.setCell (Nat.le_refl _) _).setCell (Nat.le_refl _) _).setCell (Nat.le_refl _) _
   ·have ho : isO g = false := by unfold isO; simpa using hg1
    rw [ho]
    clear ho hg1
    go_wp2_with fail
    refine (l_DivMod _ _ _ n g N1.out G1.out HGP.out LN.out).mono ?_
    rintro e w2 ⟨⟨v2, v3, rfl, hv2, -⟩, hb2⟩
    have x2 := hid (x1.out.call hb2); have b2 := hid (bnext b1.out hb2); have D2 := hid (D1.out.call hb2); have G2 := hid (G1.out.call hb2); have V2 := hid hv2
    clear hb2 hv2
    go_wp2_with fail
    refine (l_DivMod _ _ _ d g D2.out G2.out HGP.out LD.out).mono ?_
    rintro e w3 ⟨⟨v4, v5, rfl, hv4, -⟩, hb3⟩
    have x3 := hid (x2.out.call hb3); have b3 := hid (bnext b2.out hb3); have W2 := hid (V2.out.call hb3); have W4 := hid hv4
    clear hb3 hv4
    obtain ⟨a6, c6, rfl, _⟩ := W2.out.openI
    obtain ⟨a7, c7, rfl, _⟩ := W4.out.openI
    have d0 := x3.out.cell 0
    have d1 := x3.out.cell 1
    have d2 := x3.out.cell 2
    have e0 := x3.out.free 0
    have e1 := x3.out.free 1
    have e2 := x3.out.free 2
    simp at d0 d1 d2
    go_wp2_with fail
    obtain ⟨s1, s2⟩ := set3 x3.out m a6 a7 (limbs (n / g)).length c6 (limbs (d / g)).length c7
    have f0 := s2.cell 0
    have f1 := s2.cell 1
    have f2 := s2.cell 2
    simp at f0 f1 f2
    refine bodyPost_ret (v := .agg #[.bool m, .slice a6 (limbs (n / g)).length c6, .slice a7 (limbs (d / g)).length c7]) (by simp [results, Tryz.results98, go_sem, f0, f1, f2]) rfl ⟨⟨_, rfl, IsQ.mk' HP.out H0.out (HG.out ▸ s1 _ _ _ W2.out) (HG.out ▸ s1 _ _ _ W4.out)⟩, ?_⟩
    exact ((b3.out.setCell (Nat.le_refl _) _).setCell (Nat.le_refl _) _).setCell (Nat.le_refl _) _
theorem outB_ov {q : Rat} (h : ovQ q) : outB q = ⟨#[]⟩ := if_pos h
theorem outB_ok {q : Rat} (h : ¬ ovQ q) : outB q = txQ q := if_neg h
theorem outE_ov {q : Rat} (h : ovQ q) : outE q = 5 := if_pos h
theorem outE_ok {q : Rat} (h : ¬ ovQ q) : outE q = 0 := if_neg h
theorem ba_append (a b : ByteArray) : (a ++ b).data.toList = a.data.toList ++ b.data.toList := by simp
theorem txB_ff (n : Nat) : txB false n 1 = numB n := by apply ba_ext; simp [txB, numB]
theorem txB_tf (n : Nat) : txB true n 1 = ⟨#[45]⟩ ++ numB n := by apply ba_ext; rw [ba_append, txB_list, numB_list]; simp
theorem txB_ft (n d : Nat) (h : d ≠ 1) : txB false n d = numB n ++ (⟨#[47]⟩ ++ numB d) := by apply ba_ext; rw [ba_append, ba_append, txB_list, numB_list, numB_list, if_neg h]; simp
theorem txB_tt (n d : Nat) (h : d ≠ 1) : txB true n d = ⟨#[45]⟩ ++ numB n ++ (⟨#[47]⟩ ++ numB d) := by apply ba_ext; rw [ba_append, ba_append, ba_append, txB_list, numB_list, numB_list, if_neg h]; simp
theorem f_Num (w : World) (v : Value) (q : Rat) (h : IsQ .u64 w v q) (h1 : (limbs q.num.natAbs).length ≤ 1000000) (h2 : (limbs q.den).length ≤ 1000000) (hL : Lay w) :
 Calls Tryz.prog 104 #[v] w fun e w' => e = .returned (.tuple #[.string (outB q), .int .i64 (outE q)]) ∧ Below w.heap.size w w' := by
 obtain ⟨N, D, rfl, hn, hd⟩ := h.ex
 obtain ⟨m, hm⟩ : ∃ m, decide (q.num < 0) = m := ⟨_, rfl⟩
 have HN := hid hn; have HD := hid hd; have HM := hid hm; have HL := hid hL; have L1 := hid h1; have L2 := hid h2
 rw [hm]
 obtain ⟨a1, c1, rfl, _⟩ := hn.openI
 obtain ⟨a2, c2, rfl, _⟩ := hd.openI
 obtain ⟨k1, hk1⟩ : ∃ k, (limbs q.num.natAbs).length = k := ⟨_, rfl⟩
 obtain ⟨k2, hk2⟩ : ∃ k, (limbs q.den).length = k := ⟨_, rfl⟩
 rw [hk1] at HN ⊢
 rw [hk2] at HD ⊢
 have b0 := hid ((Below.refl w.heap.size w).alloc (Nat.le_refl _) (.cells #[.bool m, .slice a1 k1 c1, .slice a2 k2 c2] 57))
 have x0 := hid (Blk.new w #[.bool m, .slice a1 k1 c1, .slice a2 k2 c2] 57)
 have N0 := hid (HN.out.call b0.out); have D0 := hid (HD.out.call b0.out)
 clear hn hd hm h hk1 hk2 hL h1 h2
 by_cases o1 : 4000 < nDigits q.num.natAbs
 ·have ho : ovQ q := .inl o1
  rw [outB_ov ho, outE_ov ho]
  have q0 : decide ((4000 : Int) < (nDigits q.num.natAbs : Nat)) = true := by simp; omega
  clear o1 ho
  go_enter Tryz.func104, Tryz.ntmps104
  go_wp2_with fail
  refine (l_Digits _ _ _ N0.out (HL.out.call b0.out) L1.out).mono ?_; rintro e w1 ⟨rfl, hb1⟩
  have b1 := hid (bnext b0.out hb1); clear hb1
  go_wp2_with fail
  go_ret2
  exact ⟨rfl, b1.out⟩
 ·have q0 : decide ((4000 : Int) < (nDigits q.num.natAbs : Nat)) = false := by simp; omega
  by_cases o2 : 4000 < nDigits q.den
  ·have ho : ovQ q := .inr o2
   rw [outB_ov ho, outE_ov ho]
   have q1 : decide ((4000 : Int) < (nDigits q.den : Nat)) = true := by simp; omega
   clear o1 ho o2
   go_enter Tryz.func104, Tryz.ntmps104
   go_wp2_with fail
   refine (l_Digits _ _ _ N0.out (HL.out.call b0.out) L1.out).mono ?_; rintro e w1 ⟨rfl, hb1⟩
   have b1 := hid (bnext b0.out hb1); have D1 := hid (D0.out.call hb1)
   have x1 := x0.out.call hb1
   have r2 := x1.cell 2
   simp at r2
   clear hb1 x1
   go_wp2_with fail
   refine (l_Digits _ _ _ D1.out (HL.out.call b1.out) L2.out).mono ?_; rintro e w2 ⟨rfl, hb2⟩
   have b2 := hid (bnext b1.out hb2); clear hb2 r2
   go_wp2_with fail
   go_ret2
   exact ⟨rfl, b2.out⟩
  ·have ho : ¬ ovQ q := fun h => h.elim o1 o2
   rw [outB_ok ho, outE_ok ho]
   have q1 : decide ((4000 : Int) < (nDigits q.den : Nat)) = false := by simp; omega
   obtain ⟨z, hz⟩ : ∃ z, isO q.den = z := ⟨_, rfl⟩
   have HO := fun W h => hid (l_One W (.slice a2 k2 c2) q.den h)
   rw [hz] at HO
   have HT : Hid (txQ q = txB m q.num.natAbs q.den) := by rw [← HM.out]; rfl
   have HZ := hid hz
   rw [HT.out]
   obtain ⟨T, hT⟩ : ∃ T, txB m q.num.natAbs q.den = T := ⟨_, rfl⟩
   have HTT := hid hT
   rw [hT]
   have HS1 := fun W hv hL => hid (l_String W (.slice a1 k1 c1) q.num.natAbs hv hL L1.out)
   have HS2 := fun W hv hL => hid (l_String W (.slice a2 k2 c2) q.den hv hL L2.out)
   have en : (⟨(Lib.decDigits q.num.natAbs).toArray⟩ : ByteArray) = numB q.num.natAbs := rfl
   have ed : (⟨(Lib.decDigits q.den).toArray⟩ : ByteArray) = numB q.den := rfl
   rw [en] at HS1
   rw [ed] at HS2
   obtain ⟨sn, hsn⟩ : ∃ s, numB q.num.natAbs = s := ⟨_, rfl⟩
   obtain ⟨sd, hsd⟩ : ∃ s, numB q.den = s := ⟨_, rfl⟩
   rw [hsn] at HS1
   rw [hsd] at HS2
   have HSN := hid hsn; have HSD := hid hsd
   have hs1 : sn.size ≤ 4000 := by rw [← hsn, numB_size]; omega
   have hs2 : sd.size ≤ 4000 := by rw [← hsd, numB_size]; omega
   clear o1 ho o2 hT hz en ed hsn hsd
   go_enter Tryz.func104, Tryz.ntmps104
   go_wp2_with fail
   refine (l_Digits _ _ _ N0.out (HL.out.call b0.out) L1.out).mono ?_; rintro e w1 ⟨rfl, hb1⟩
   have b1 := hid (bnext b0.out hb1); have D1 := hid (D0.out.call hb1); have x1 := hid (x0.out.call hb1); have N1 := hid (N0.out.call hb1)
   have r2 := x1.out.cell 2
   simp at r2
   clear hb1
   go_wp2_with fail
   refine (l_Digits _ _ _ D1.out (HL.out.call b1.out) L2.out).mono ?_; rintro e w2 ⟨rfl, hb2⟩
   have b2 := hid (bnext b1.out hb2); have D2 := hid (D1.out.call hb2); have x2 := hid (x1.out.call hb2); have N2 := hid (N1.out.call hb2)
   have r1 := x2.out.cell 1
   simp at r1
   clear hb2 r2
   go_wp2_with fail
   refine (HS1 _ N2.out (HL.out.call b2.out)).out.mono ?_; rintro e w3 ⟨rfl, hb3⟩
   have b3 := hid (bnext b2.out hb3); have D3 := hid (D2.out.call hb3); have x3 := hid (x2.out.call hb3)
   have r0 := x3.out.cell 0
   have r2 := x3.out.cell 2
   simp at r0 r2
   clear hb3 r1 HS1
   cases m
   ·go_wp2_with fail
    refine (HO _ D3.out).out.mono ?_; rintro e w4 ⟨rfl, rfl⟩
    cases z
    ·go_wp2_with fail
     refine (HS2 _ D3.out (HL.out.call b3.out)).out.mono ?_; rintro e w5 ⟨rfl, hb5⟩
     have b5 := hid (bnext b3.out hb5); clear hb5 r0 r2
     go_wp2_with fail
     go_ret2
     have hTe : T = sn ++ (⟨#[47]⟩ ++ sd) := by rw [← HTT.out, txB_ft _ _ (of_decide_eq_false HZ.out), HSN.out, HSD.out]
     exact ⟨by rw [hTe]; rfl, b5.out⟩
    ·go_wp2_with fail
     go_ret2
     have hTe : T = sn := by rw [← HTT.out, isO_iff.1 HZ.out, txB_ff, HSN.out]
     exact ⟨by rw [hTe]; rfl, b3.out⟩
   ·go_wp2_with fail
    refine (HO _ D3.out).out.mono ?_; rintro e w4 ⟨rfl, rfl⟩
    cases z
    ·go_wp2_with fail
     refine (HS2 _ D3.out (HL.out.call b3.out)).out.mono ?_; rintro e w5 ⟨rfl, hb5⟩
     have b5 := hid (bnext b3.out hb5); clear hb5 r0 r2
     go_wp2_with fail
     go_ret2
     have hTe : T = ⟨#[45]⟩ ++ sn ++ (⟨#[47]⟩ ++ sd) := by rw [← HTT.out, txB_tt _ _ (of_decide_eq_false HZ.out), HSN.out, HSD.out]
     exact ⟨by rw [hTe]; rfl, b5.out⟩
    ·go_wp2_with fail
     go_ret2
     have hTe : T = ⟨#[45]⟩ ++ sn := by rw [← HTT.out, isO_iff.1 HZ.out, txB_tf, HSN.out]
     exact ⟨by rw [hTe]; rfl, b3.out⟩
open Go.Shelf
theorem ne_tl {x y : ByteArray} (h : ¬ x = y) : ¬ x.toList = y.toList := fun e => h (by
 rw [Lib.toList_data, Lib.toList_data] at e
 exact ba_ext e)
open Go.Maps
attribute [local go_sem] Oper.semAt_some
theorem outB_size (q : Rat) : (outB q).size ≤ 10000 := by
 unfold outB
 split
 ·exact (by decide : (0 : Nat) ≤ 10000)
 ·rename_i h
  unfold ovQ at h
  have h1 := list_size (txQ q)
  unfold txQ at h1 ⊢
  rw [txB_list] at h1
  rw [← h1]
  simp only [List.length_append, Lib.decDigits_length]
  have e1 : (if decide (q.num < 0) = true then [45] else ([] : List UInt8)).length ≤ 1 := by split <;> simp
  have e2 : (if q.den = 1 then [] else (47 : UInt8) :: decDigits q.den).length ≤ 4001 := by
   split
   ·simp
   ·simp only [List.length_cons, Lib.decDigits_length]; omega
  omega
end Go.Proofs.YtlimaehdmcnjaaaGreatDoor
namespace Go.Proofs.YtlimaehdmcnjaaaGreatDoor
open Go.RowKit
open Go.Lib (decDigits nDigits)
def sgnZ (z : Int) : Int := if z = 0 then 0 else if z < 0 then -1 else 1
theorem mk_num_zero {z : Int} {d : Nat} (hd : d ≠ 0) : (mkRat z d).num = 0 ↔ z = 0 := by
 rw [Rat.num_mkRat, if_neg hd]
 have hg : (0 : Int) < (Nat.gcd d z.natAbs : Nat) := by
  have := Nat.gcd_pos_of_pos_left z.natAbs (Nat.pos_of_ne_zero hd)
  omega
 have hdv : ((Nat.gcd d z.natAbs : Nat) : Int) ∣ z := Int.ofNat_dvd_left.2 (Nat.gcd_dvd_right _ _)
 constructor
 ·intro h
  have := Int.ediv_mul_cancel hdv
  rw [h, Int.zero_mul] at this
  exact this.symm
 ·rintro rfl; simp
theorem mk_num_neg {z : Int} {d : Nat} (hd : d ≠ 0) : (mkRat z d).num < 0 ↔ z < 0 := by
 rw [Rat.num_mkRat, if_neg hd]
 have hg : (0 : Int) < (Nat.gcd d z.natAbs : Nat) := by
  have := Nat.gcd_pos_of_pos_left z.natAbs (Nat.pos_of_ne_zero hd)
  omega
 constructor
 ·intro h
  rcases Int.lt_or_le z 0 with h1 | h1
  ·exact h1
  ·have := Int.ediv_nonneg h1 (Int.le_of_lt hg)
   omega
 ·intro h
  exact Int.ediv_neg_of_neg_of_pos h hg
theorem sgnQ_mk {z : Int} {d : Nat} (hd : d ≠ 0) : sgnQ (mkRat z d) = sgnZ z := by
 unfold sgnQ sgnZ
 by_cases h : z = 0
 ·rw [if_pos ((mk_num_zero hd).2 h), if_pos h]
 ·rw [if_neg (fun e => h ((mk_num_zero hd).1 e)), if_neg h]
  by_cases h2 : z < 0
  ·rw [if_pos ((mk_num_neg hd).2 h2), if_pos h2]
  ·rw [if_neg (fun e => h2 ((mk_num_neg hd).1 e)), if_neg h2]
theorem mk_sub {a c : Int} {b d : Nat} (hb : b ≠ 0) (hd : d ≠ 0) : mkRat a b - mkRat c d = mkRat (a * d - c * b) (b * d) := by
 rw [Rat.sub_eq_add_neg, Rat.neg_mkRat, Rat.mkRat_add_mkRat _ _ hb hd, Int.neg_mul, Int.sub_eq_add_neg]
theorem ordQ_mk {a c : Int} {b d : Nat} (hb : b ≠ 0) (hd : d ≠ 0) : ordQ (mkRat a b) (mkRat c d) = sgnZ (a * d - c * b) := by
 unfold ordQ
 rw [mk_sub hb hd, sgnQ_mk (Nat.mul_ne_zero hb hd)]
theorem tx_size {q : Rat} (h : ¬ ovQ q) : (txQ q).size ≤ 10000 := by
 have := outB_size q
 rwa [outB_fits h] at this
def lightB (l : List ByteArray) : Bool := l.all (fun s => decide (s.size ≤ 20)) && decide (l.length ≤ 12)
def validB (l : List ByteArray) : Bool := l.all (fun s => decide (qE s = 0)) && (lightB l && decide (0 < l.length))
structure VL (K : Nat) (l : List ByteArray) : Prop where
 q : ∀ s ∈ l, qE s = 0
 sz : ∀ s ∈ l, s.size ≤ K
 pos : 0 < l.length
 le : l.length ≤ 12
theorem VL.of {l : List ByteArray} (h : validB l = true) : VL 20 l := by
 unfold validB lightB at h
 simp only [Bool.and_eq_true, List.all_eq_true, decide_eq_true_eq] at h
 exact ⟨h.1, h.2.1.1, h.2.2, h.2.1.2⟩
theorem VL.dig {K : Nat} {l : List ByteArray} (h : VL K l) (hK : 1 ≤ K) : ∀ q ∈ l.map vQ, Dig K q := by
 intro q hq
 obtain ⟨s, hs, rfl⟩ := List.mem_map.1 hq
 exact dig_text (h.q s hs) (h.sz s hs) hK
def vD (l : List ByteArray) : Nat := dnP (l.map vQ)
theorem vD_pos (l : List ByteArray) : 0 < vD l := dnP_pos _
theorem VL.vD_le {K : Nat} {l : List ByteArray} (h : VL K l) (hK : 1 ≤ K) : vD l ≤ 10 ^ (12 * K) := by
 refine Nat.le_trans (dnP_lt (h.dig hK)) (Nat.pow_le_pow_right (by omega) ?_)
 rw [List.length_map, Nat.mul_comm]
 exact Nat.mul_le_mul_right _ h.le
theorem tx_all {l : List ByteArray} (h : ∀ s ∈ l, qE s = 0) : ∀ (i : Nat) (s : ByteArray) (q : Rat), l[i]? = some s → (l.map vQ)[i]? = some q → Tx s q := by
 intro i s q h1 h2
 rw [List.getElem?_map, h1] at h2
 simp at h2
 subst h2
 exact Tx.of (h s (List.mem_of_getElem? h1))
theorem VL.tx {K : Nat} {l : List ByteArray} (h : VL K l) (hK : 1 ≤ K) : TxL (vD l) (10 ^ K) l (l.map vQ) :=
 ⟨by simp, tx_all h.q, fun q hq => (h.dig hK q hq).dn.dvd (vD_pos l) (dnP_dvd hq)⟩
theorem lt_pow {B D a b K : Nat} (hB : B ≤ 10 ^ a) (hD : D ≤ 10 ^ b) (h : a + b < K) : (B + 1) * D < 10 ^ K := by
 have h1 : 0 < 10 ^ a := Nat.pow_pos (by omega)
 have h2 : 0 < 10 ^ b := Nat.pow_pos (by omega)
 refine Nat.lt_of_le_of_lt (Nat.mul_le_mul (Nat.add_le_add_right hB 1) hD) (Nat.lt_of_lt_of_le ?_ (Nat.pow_le_pow_right (by omega) (show a + 1 + b ≤ K by omega)))
 rw [Nat.pow_add, Nat.pow_succ]
 exact Nat.mul_lt_mul_of_pos_right (by omega) h2
theorem mul_pow {B C a b : Nat} (hB : B ≤ 10 ^ a) (hC : C ≤ 10 ^ b) : B * C ≤ 10 ^ (a + b) := by
 rw [Nat.pow_add]; exact Nat.mul_le_mul hB hC
theorem add_pow {B C a : Nat} (hB : B ≤ 10 ^ a) (hC : C ≤ 10 ^ a) : B + C ≤ 10 ^ (a + 1) := by
 have h1 : 0 < 10 ^ a := Nat.pow_pos (by omega)
 rw [Nat.pow_succ]; omega
theorem up_pow {B a b : Nat} (hB : B ≤ 10 ^ a) (h : a ≤ b) : B ≤ 10 ^ b := Nat.le_trans hB (Nat.pow_le_pow_right (by omega) h)
theorem n12 {n : Nat} (h : n ≤ 12) : n ≤ 10 ^ 2 := by omega
theorem Dn.tx {D B a b : Nat} {q : Rat} (h : Dn D B q) (hB : B ≤ 10 ^ a) (hD : D ≤ 10 ^ b) (hk : a + b < 4000) : Tx (txQ q) q :=
 ⟨rfl, h.fits (K := a + b + 1) (lt_pow hB hD (by omega)) (by omega) (by omega)⟩
theorem TxL.qe {D B : Nat} {l : List ByteArray} {qs : List Rat} (h : TxL D B l qs) : ∀ s ∈ l, qE s = 0 := by
 intro s hs
 obtain ⟨i, hi⟩ := List.getElem?_of_mem hs
 have := (List.getElem?_eq_some_iff.1 hi).1
 obtain ⟨q, hq⟩ : ∃ q, qs[i]? = some q := ⟨_, List.getElem?_eq_getElem (by rw [← h.len]; exact this)⟩
 exact (h.tx i s q hi hq).qE
theorem TxL.is {D B : Nat} {l : List ByteArray} {qs : List Rat} (h : TxL D B l qs) : l.map vQ = qs := by
 refine List.ext_getElem? fun i => ?_
 by_cases hi : i < qs.length
 ·obtain ⟨q, hq⟩ : ∃ q, qs[i]? = some q := ⟨_, List.getElem?_eq_getElem hi⟩
  obtain ⟨s, hs⟩ : ∃ s, l[i]? = some s := ⟨_, List.getElem?_eq_getElem (by rw [h.len]; exact hi)⟩
  rw [List.getElem?_map, hs, hq]
  simp [(h.tx i s q hs hq).vQ]
 ·rw [List.getElem?_eq_none (by rw [List.length_map, h.len]; omega), List.getElem?_eq_none (by omega)]
end Go.Proofs.YtlimaehdmcnjaaaGreatDoor
namespace Go.Proofs.YtlimaehdmcnjaaaGreatDoor
open Go.RowKit
structure KeepK (k : IntKind) (W W' : World) : Prop where
 size : W.heap.size ≤ W'.heap.size
 cell : ∀ (g o : Nat) (x : Int), W.cell? ⟨g, o, none⟩ = some (.int k x) → W'.cell? ⟨g, o, none⟩ = some (.int k x)
theorem KeepK.trans {k : IntKind} {W W1 W2 : World} (h : KeepK k W W1) (h2 : KeepK k W1 W2) : KeepK k W W2 := ⟨Nat.le_trans h.size h2.size, fun g o x hx => h2.cell g o x (h.cell g o x hx)⟩
theorem KeepK.isN {k : IntKind} {W W' : World} {v : Value} {n : Nat} (h : KeepK k W W') (hn : IsN k W v n) : IsN k W' v n := by
 obtain ⟨a, c, rfl, h1, h2, h3⟩ := hn.ex
 refine ⟨a, c, rfl, h1, h2, fun i x hx => ?_⟩
 obtain ⟨g, o, e, hg, hc⟩ := h3 i x hx
 have hm : x ∈ ints k (limbs n) := List.mem_of_getElem? hx
 obtain ⟨y, _, rfl⟩ := List.mem_map.1 hm
 exact ⟨g, o, e, Nat.lt_of_lt_of_le hg h.size, h.cell g _ _ hc⟩
theorem KeepK.isQ {k : IntKind} {W W' : World} {v : Value} {q : Rat} (h : KeepK k W W') (hq : IsQ k W v q) : IsQ k W' v q := by
 obtain ⟨N, D, rfl, h1, h2⟩ := hq.ex
 exact ⟨N, D, rfl, h.isN h1, h.isN h2⟩
theorem KeepK.below {k : IntKind} {W W' : World} (hb : Below W.heap.size W W') : KeepK k W W' := ⟨hb.size, fun g o x hx => (hb.cell (p := ⟨g, o, none⟩) (cell_lt hx)).trans hx⟩
def NoK (k : IntKind) (cs : Array Value) : Prop := ∀ (i : Nat) (x : Int), cs[i]? ≠ some (.int k x)
def NoKL (k : IntKind) (cs : List Value) : Prop := ∀ x : Int, .int k x ∉ cs
theorem NoK.of {k : IntKind} {cs : Array Value} (h : NoKL k cs.toList) : NoK k cs := fun i x hx => h x (List.mem_of_getElem? (by rw [Array.getElem?_toList]; exact hx))
theorem NoK.list {k : IntKind} {cs : Array Value} (h : NoK k cs) : NoKL k cs.toList := fun x hx => by
 obtain ⟨i, hi⟩ := List.getElem?_of_mem hx
 exact h i x (by rw [← Array.getElem?_toList]; exact hi)
theorem NoKL.append {k : IntKind} {a b : List Value} (h : NoKL k a) (h2 : NoKL k b) : NoKL k (a ++ b) := fun x hx => (List.mem_append.1 hx).elim (h x) (h2 x)
theorem NoKL.take {k : IntKind} {a : List Value} (h : NoKL k a) (n : Nat) : NoKL k (a.take n) := fun x hx => h x (List.mem_of_mem_take hx)
theorem NoKL.drop {k : IntKind} {a : List Value} (h : NoKL k a) (n : Nat) : NoKL k (a.drop n) := fun x hx => h x (List.mem_of_mem_drop hx)
theorem NoKL.zeros {k : IntKind} {z : Array Value} (h : NoKL k z.toList) (n : Nat) : NoKL k (Builtin.zeroCells z n).toList := fun x hx => by
 unfold Builtin.zeroCells at hx
 rw [Array.toList_map] at hx
 obtain ⟨i, hi, he⟩ := List.mem_map.1 hx
 rw [Array.toList_range, List.mem_range] at hi
 have hz : 0 < z.size := by
  rcases Nat.eq_zero_or_pos z.size with h0 | h0
  ·rw [h0, Nat.mul_zero] at hi; omega
  ·exact h0
 have hl : i % z.size < z.size := Nat.mod_lt _ hz
 rw [getElem!_pos z _ hl] at he
 exact h x (by rw [← he]; simp)
theorem NoK.set {k : IntKind} {cs : Array Value} (h : NoK k cs) (j : Nat) {u : Value} (hu : ∀ x, u ≠ .int k x) : NoK k (cs.setIfInBounds j u) := fun i x hx => by
 rw [Array.getElem?_setIfInBounds] at hx
 split at hx
 ·split at hx
  ·exact hu x (Option.some.inj hx)
  ·cases hx
 ·exact h i x hx
theorem KeepK.grown {k : IntKind} {W W' : World} {g : Nat} {cs : Array Value} {t : TypeId} (hB : Blk W g cs t) (hn : NoK k cs) (hg : W.grownBy W' (some g)) : KeepK k W W' := by
 refine ⟨hg.size, fun g' o x hx => ?_⟩
 have hne : g' ≠ g := by
  rintro rfl
  rw [hB.cell] at hx
  exact hn _ _ hx
 exact hg.cell hx (fun e => hne (Option.some.inj e))
theorem KeepK.grown0 {k : IntKind} {W W' : World} (hg : W.grownBy W' none) : KeepK k W W' := ⟨hg.size, fun g' o x hx => hg.cell hx (fun e => by cases e)⟩
theorem KeepK.set {k : IntKind} {W : World} {g : Nat} {cs : Array Value} {t : TypeId} (hB : Blk W g cs t) (hn : NoK k cs) (j : Nat) (u : Value) : KeepK k W (W.setCell ⟨g, j, none⟩ u) := by
 refine ⟨by simp [World.setCell], fun g' o x hx => ?_⟩
 have hne : g' ≠ g := by
  rintro rfl
  rw [hB.cell] at hx
  exact hn _ _ hx
 rw [← hx]
 unfold World.cell?
 rw [Below.heap_setCell _ _ _ _ (by simpa using hne)]
structure KRow (k : IntKind) (t : TypeId) (sz B : Nat) (W : World) (v : Value) (cs : List (List Value)) : Prop where
 own : W.ownsRow B t sz v cs.length cs.flatten
 all : ∀ c ∈ cs, c.length = sz
 nok : ∀ g, v.ownBlock = some g → ∃ cur, Blk W g cur t ∧ NoK k cur
theorem KRow.nil (k : IntKind) (t : TypeId) (sz B : Nat) (W : World) : KRow k t sz B W (.slice none 0 0) [] := ⟨World.ownsRow_nil _ _ _ _, fun c hc => (by cases hc), fun g hg => by simp [Value.ownBlock] at hg⟩
theorem KRow.keep {k : IntKind} {t : TypeId} {sz B : Nat} {W W' : World} {v : Value} {cs : List (List Value)} (h : KRow k t sz B W v cs) (hb : ∀ g, v.ownBlock = some g → W'.heap[g]? = W.heap[g]?) : KRow k t sz B W' v cs := by
 refine ⟨⟨h.own.1, ?_⟩, h.all, fun g hg => ?_⟩
 ·rcases h.own.2 with h0 | ⟨g, cap, cur, rfl, h1, h2, h3⟩
  ·exact .inl h0
  ·exact .inr ⟨g, cap, cur, rfl, h1, (hb g rfl).trans h2, h3⟩
 ·obtain ⟨cur, h1, h2⟩ := h.nok g hg
  exact ⟨cur, (hb g hg).trans h1, h2⟩
theorem KRow.call {k : IntKind} {t : TypeId} {sz B : Nat} {W W' : World} {v : Value} {cs : List (List Value)} (h : KRow k t sz B W v cs) (hb : Below W.heap.size W W') : KRow k t sz B W' v cs := h.keep fun g hg => hb.block g (h.own.lt g hg).2
theorem KRow.ex {k : IntKind} {t : TypeId} {sz B : Nat} {W : World} {v : Value} {cs : List (List Value)} (h : KRow k t sz B W v cs) : ∃ a c, v = .slice a cs.length c ∧ cs.length ≤ c ∧ c ≤ 9223372036854775807 := by
 rcases h.own.2 with ⟨rfl, h0⟩ | ⟨g, cap, cur, rfl, h1, h2, h3, h4, h5, h6⟩
 ·exact ⟨none, 0, by rw [h0], by omega, by omega⟩
 ·exact ⟨_, _, rfl, h3, by unfold maxLen at h4; omega⟩
theorem flat_get {cs : List (List Value)} {sz : Nat} : (∀ c ∈ cs, c.length = sz) → ∀ {i j : Nat} {c : List Value} {x : Value}, cs[i]? = some c → c[j]? = some x → cs.flatten[i * sz + j]? = some x := by
 induction cs with
 | nil => intro _ i j c x hc; simp at hc
 | cons d cs ih =>
  intro h i j c x hc hx
  have hd : d.length = sz := h d (by simp)
  rw [List.flatten_cons]
  cases i with
  | zero =>
   simp at hc
   subst hc
   have : j < d.length := (List.getElem?_eq_some_iff.1 hx).1
   rw [Nat.zero_mul, Nat.zero_add, List.getElem?_append_left this]; exact hx
  | succ i =>
   rw [List.getElem?_cons_succ] at hc
   rw [Nat.succ_mul, List.getElem?_append_right (by omega), show i * sz + sz + j - d.length = i * sz + j by omega]
   exact ih (fun c hc => h c (by simp [hc])) hc hx
theorem flat_set {cs : List (List Value)} {sz : Nat} : (∀ c ∈ cs, c.length = sz) → ∀ {i j : Nat} {c : List Value} (u : Value), cs[i]? = some c → j < sz → cs.flatten.set (i * sz + j) u = (cs.set i (c.set j u)).flatten := by
 induction cs with
 | nil => intro _ i j c x hc; simp at hc
 | cons d cs ih =>
  intro h i j c u hc hj
  have hd : d.length = sz := h d (by simp)
  cases i with
  | zero =>
   simp at hc
   subst hc
   rw [Nat.zero_mul, Nat.zero_add, List.flatten_cons, List.set_append_left _ _ (by omega), List.set_cons_zero, List.flatten_cons]
  | succ i =>
   rw [List.getElem?_cons_succ] at hc
   rw [List.flatten_cons, Nat.succ_mul, List.set_append_right _ _ (by omega), show i * sz + sz + j - d.length = i * sz + j by omega, List.set_cons_succ, List.flatten_cons, ih (fun c hc => h c (by simp [hc])) u hc hj]
theorem KRow.block {k : IntKind} {t : TypeId} {sz B : Nat} {W : World} {v : Value} {cs : List (List Value)} (h : KRow k t sz B W v cs) {i : Nat} {c : List Value} (hc : cs[i]? = some c) (h0 : 0 < sz) : ∃ g cap, v = .slice (some ⟨g, 0, none⟩) cs.length cap ∧ cs.length ≤ cap ∧ cap ≤ 9223372036854775807 ∧ B ≤ g ∧ g < W.heap.size ∧ (∀ j, W.frozen? ⟨g, j, none⟩ = false) := by
 have hi : i < cs.length := (List.getElem?_eq_some_iff.1 hc).1
 rcases h.own.2 with ⟨rfl, h0⟩ | ⟨g, cap, cur, rfl, h1, h2, h3, h4, h5, h6⟩
 ·omega
 ·exact ⟨g, cap, rfl, h3, by unfold maxLen at h4; omega, h1, (Array.getElem?_eq_some_iff.1 h2).1, fun j => Blk.free h2 j⟩
theorem KRow.cell {k : IntKind} {t : TypeId} {sz B : Nat} {W : World} {cs : List (List Value)} {g n cap : Nat} (h : KRow k t sz B W (.slice (some ⟨g, 0, none⟩) n cap) cs) {i j : Nat} {c : List Value} {x : Value} (hc : cs[i]? = some c) (hx : c[j]? = some x) : W.cell? ⟨g, i * sz + j, none⟩ = some x := by
 have := h.own.cells rfl _ _ (flat_get h.all hc hx)
 rwa [Addr.add_lit, Nat.zero_add] at this
theorem KRow.free {k : IntKind} {t : TypeId} {sz B : Nat} {W : World} {cs : List (List Value)} {g n cap : Nat} (h : KRow k t sz B W (.slice (some ⟨g, 0, none⟩) n cap) cs) (j : Nat) : W.frozen? ⟨g, j, none⟩ = false := by
 obtain ⟨cur, h1, -⟩ := h.nok g rfl
 exact Blk.free h1 j
theorem KRow.keepSet {k : IntKind} {t : TypeId} {sz B : Nat} {W : World} {cs : List (List Value)} {g n cap : Nat} (h : KRow k t sz B W (.slice (some ⟨g, 0, none⟩) n cap) cs) (j : Nat) (u : Value) : KeepK k W (W.setCell ⟨g, j, none⟩ u) := by
 obtain ⟨cur, h1, h2⟩ := h.nok g rfl
 exact KeepK.set h1 h2 j u
theorem KRow.set {k : IntKind} {t : TypeId} {sz B : Nat} {W : World} {cs : List (List Value)} {g n cap : Nat} (h : KRow k t sz B W (.slice (some ⟨g, 0, none⟩) n cap) cs) {i j : Nat} {c : List Value} (hc : cs[i]? = some c) (hj : j < sz) {u : Value} (hu : ∀ x, u ≠ .int k x) : KRow k t sz B (W.setCell ⟨g, i * sz + j, none⟩ u) (.slice (some ⟨g, 0, none⟩) n cap) (cs.set i (c.set j u)) := by
 obtain ⟨cur, h1, h2⟩ := h.nok g rfl
 have hcl : c.length = sz := h.all c (List.mem_of_getElem? hc)
 refine ⟨?_, fun d hd => ?_, fun g' hg' => ?_⟩
 ·rw [← flat_set h.all u hc hj, List.length_set]
  rcases h.own.2 with ⟨e1, _⟩ | ⟨g', cap', cur', e1, hb, hg, h3, h4, h5, h6⟩
  ·simp at e1
  ·simp at e1
   obtain ⟨rfl, e2, rfl⟩ := e1
   refine ⟨by rw [List.length_set]; exact h.own.1, .inr ⟨g, cap, cur'.setIfInBounds (i * sz + j) u, by rw [e2], hb, Blk.set hg _ u, h3, h4, by simpa using h5, ?_⟩⟩
   rw [Array.toList_setIfInBounds, List.take_set, h6]
 ·rcases List.mem_or_eq_of_mem_set hd with hd | rfl
  ·exact h.all d hd
  ·rw [List.length_set]; exact hcl
 ·obtain rfl : g = g' := by simpa [Value.ownBlock] using hg'
  exact ⟨_, h1.set _ u, h2.set _ hu⟩
theorem run_append_krow {P : Program} (w : World) (k : IntKind) (base : Nat) (t ty e : TypeId) (i : TypeInfo) (z : Value) (size bytes : Nat) (ht : P.underlying t = some (.slice e)) (hi : P.info? e = some i) (hz : i.zero = some z)
 (hsize : i.size = size) (hby : i.bytes = bytes) (hzs : z.cells.size = size) (hsz : 0 < size) (hzk : NoKL k z.cells.toList) (v : Value) (cs : List (List Value)) (hown : KRow k e size base w v cs)
 (a : Addr) (m c : Nat) (news : List (List Value)) (hl : news.length = m) (hns : ∀ d ∈ news, d.length = size) (hnews : ∀ j u, news.flatten[j]? = some u → w.cell? (a.add j) = some u) (h1 : ∀ u ∈ news.flatten, u.oneCell' = true) (hnk : NoKL k news.flatten)
 (h63 : cs.length + m ≤ maxLen) (hbytes : (cs.length + m) * bytes ≤ 140737488355328) (hbase : base ≤ w.heap.size) :
 ∃ v' w', (Builtin.append_ #[t, t] ty #[v, .slice (some a) m c]).run P w = .ok v' w' ∧ KRow k e size base w' v' (cs ++ news) ∧ w.grownBy w' v.ownBlock ∧ KeepK k w w' ∧
  (v'.ownBlock = v.ownBlock ∨ v'.ownBlock = some w.heap.size) := by
 have hfl : news.flatten.length = m * size := by
  rw [← hl]
  clear hnews h1 hnk hl
  induction news with
  | nil => simp
  | cons d news ih => rw [List.flatten_cons, List.length_append, ih (fun d hd => hns d (by simp [hd])), hns d (by simp), List.length_cons, Nat.succ_mul]; omega
 obtain ⟨v', w', hr, k1, k2, -, k4⟩ := run_append_own_at (P := P) w base t ty e i z size bytes ht hi hz hsize hby hzs hsz v cs.length cs.flatten hown.own a m c news.flatten hfl hnews h1 h63 hbytes hbase
 have keep : KeepK k w w' := by
  cases hv : v.ownBlock with
  | none => rw [hv] at k2; exact KeepK.grown0 k2
  | some g =>
   obtain ⟨cur, q1, q2⟩ := hown.nok g hv
   rw [hv] at k2
   exact KeepK.grown q1 q2 k2
 have hlen : (cs ++ news).length = cs.length + m := by rw [List.length_append, hl]
 refine ⟨v', w', hr, ⟨by rw [hlen, List.flatten_append]; exact k1, fun d hd => (List.mem_append.1 hd).elim (hown.all d) (hns d), ?_⟩, k2, keep, k4⟩
 intro g' hg'
 subst hsize
 subst hby
 have hzz := hzk.zeros
 rcases hown.own.2 with ⟨rfl, h0⟩ | ⟨g, cap, cur, rfl, hbg, hg, hnc, hcm, hcs, htake⟩
 ·by_cases hm : m = 0
  ·subst hm
   have hn : news = [] := List.eq_nil_of_length_eq_zero hl
   subst hn
   exfalso
   rcases k1.2 with ⟨e1, _⟩ | ⟨g1, cap1, cur1, e1, _⟩
   ·rw [e1] at hg'; simp [Value.ownBlock] at hg'
   ·have hr2 : (Builtin.append_ #[t, t] ty #[.slice none 0 0, .slice (some a) 0 c]).run P w = .ok (.slice none 0 0) w := by
     simp [Builtin.append_, run_underlying ht, sizeOf, typeInfo, hi, Builtin.lenOf, Builtin.firstCells, loadCells, loadCellsFrom]
    rw [hr] at hr2
    injection hr2 with q1 q2
    rw [q1] at hg'
    simp [Value.ownBlock] at hg'
  ·have hr2 := run_append_nil (P := P) w t ty e i z ht hi hz a m c news.flatten hfl hnews (by omega) (by unfold maxLen at h63; omega) (by rw [h0, Nat.zero_add] at hbytes; omega)
   rw [hr] at hr2
   injection hr2 with q1 q2
   rw [q1] at hg'
   simp [Value.ownBlock] at hg'
   subst hg'
   rw [q2]
   refine ⟨_, heap_alloc_new w.drew _, NoK.of ?_⟩
   rw [Array.toList_append]
   exact hnk.append (hzz _)
 ·by_cases hroom : cs.length + m ≤ cap
  ·have hfit : cs.length * i.size + news.flatten.length ≤ cur.size := by rw [hfl, hcs, ← Nat.add_mul]; exact Nat.mul_le_mul_right _ hroom
   have hr2 := run_append_room (P := P) w t ty e i ht hi g cs.length cap cur hg a m c news.flatten hfl hnews h1 hroom hfit
   rw [hr] at hr2
   injection hr2 with q1 q2
   rw [q1] at hg'
   simp [Value.ownBlock] at hg'
   subst hg'
   rw [q2]
   refine ⟨_, setRow_heap w g cur _ e _ hg, NoK.of ?_⟩
   obtain ⟨cur2, q3, q4⟩ := hown.nok g rfl
   have e2 : cur2 = cur := by
    have := (show w.heap[g]? = _ from q3).symm.trans hg
    injection this with this
    injection this
   subst e2
   exact ((q4.list.take _).append hnk).append (q4.list.drop _)
  ·have holds : ∀ j u, cs.flatten[j]? = some u → w.cell? ((⟨g, 0, none⟩ : Addr).add j) = some u := hown.own.cells (g := g) rfl
   have hr2 := run_append_grow (P := P) w t ty e i z ht hi hz ⟨g, 0, none⟩ cs.length cap cs.flatten hown.own.1 holds a m c news.flatten hfl hnews (by omega) (by unfold maxLen at h63; omega) (growslice_fits (by omega) hbytes)
   rw [hr] at hr2
   injection hr2 with q1 q2
   rw [q1] at hg'
   simp [Value.ownBlock] at hg'
   subst hg'
   rw [q2]
   refine ⟨_, heap_alloc_new w.drew _, NoK.of ?_⟩
   obtain ⟨cur2, q3, q4⟩ := hown.nok g rfl
   have e2 : cur2 = cur := by
    have := (show w.heap[g]? = _ from q3).symm.trans hg
    injection this with this
    injection this
   subst e2
   have hfk : NoKL k cs.flatten := by rw [← htake]; exact q4.list.take _
   rw [Array.toList_append, Array.toList_append]
   exact (hfk.append hnk).append (hzz _)
theorem wpList_append_krow {P : Program} (w : World) {ops : Array Oper} {rest : List Oper} {o : Oper} {a : Act} {Q : Exit → Act → World → Prop} (k : IntKind) (hgd : o.guard = none) (s x : Operand) (t : TypeId)
 (ho : o.op = .call { callee := .builtin .append, args := #[s, x], argTypes := #[t, t] })
 (base : Nat) (e : TypeId) (i : TypeInfo) (z : Value) (size bytes : Nat) (ht : P.underlying t = some (.slice e)) (hi : P.info? e = some i) (hz : i.zero = some z)
 (hsize : i.size = size) (hby : i.bytes = bytes) (hzs : z.cells.size = size) (hsz : 0 < size) (hzk : NoKL k z.cells.toList)
 (v : Value) (cs : List (List Value)) (hs : a.eval s = v) (hown : KRow k e size base w v cs)
 (ad : Addr) (m c : Nat) (news : List (List Value)) (hx : a.eval x = .slice (some ad) m c) (hl : news.length = m) (hns : ∀ d ∈ news, d.length = size) (hnews : ∀ j u, news.flatten[j]? = some u → w.cell? (ad.add j) = some u) (h1 : ∀ u ∈ news.flatten, u.oneCell' = true) (hnk : NoKL k news.flatten)
 (h63 : cs.length + m ≤ maxLen) (hbytes : (cs.length + m) * bytes ≤ 140737488355328) (hbase : base ≤ w.heap.size)
 (h : ∀ v' w', KRow k e size base w' v' (cs ++ news) → w.grownBy w' v.ownBlock → KeepK k w w' → (v'.ownBlock = v.ownBlock ∨ v'.ownBlock = some w.heap.size) → wpList P ops Q rest (a.put o.dst v') w') :
 wpList P ops Q (o :: rest) a w := by
 refine wpList_plain hgd fun K hK => ?_
 obtain ⟨v', w', hr, h2, h3, h4, h5⟩ := run_append_krow (P := P) w k base t o.type e i z size bytes ht hi hz hsize hby hzs hsz hzk v cs hown ad m c news hl hns hnews h1 hnk h63 hbytes hbase
 unfold Oper.wp execOp
 simp only [ho, resolve, invoke, builtin, Sem.run_bind, Sem.run_pure, Result.andThen_ok, List.map_toArray, List.map_cons, List.map_nil, hs, hx, hr]
 exact hK _ _ (h v' w' h2 h3 h4 h5)
structure QC (k : IntKind) (W : World) (c : List Value) (q : Rat) : Prop where
 ex : ∃ (a : Option Addr) (n p : Nat) (b : Option Addr) (n' p' : Nat), c = [.bool (decide (q.num < 0)), .slice a n p, .slice b n' p'] ∧ IsQ k W (.agg #[.bool (decide (q.num < 0)), .slice a n p, .slice b n' p']) q
theorem QC.keep {k : IntKind} {W W' : World} {c : List Value} {q : Rat} (h : QC k W c q) (hk : KeepK k W W') : QC k W' c q := by
 obtain ⟨a, n, p, b, n', p', rfl, h1⟩ := h.ex
 exact ⟨a, n, p, b, n', p', rfl, hk.isQ h1⟩
structure QL (k : IntKind) (W : World) (cs : List (List Value)) (qs : List Rat) : Prop where
 len : cs.length = qs.length
 at_ : ∀ (i : Nat) (q : Rat), qs[i]? = some q → ∃ c, cs[i]? = some c ∧ QC k W c q
theorem QL.nil (k : IntKind) (W : World) : QL k W [] [] := ⟨rfl, fun i q h => by simp at h⟩
theorem QL.keep {k : IntKind} {W W' : World} {cs : List (List Value)} {qs : List Rat} (h : QL k W cs qs) (hk : KeepK k W W') : QL k W' cs qs := ⟨h.len, fun i q hq => by
 obtain ⟨c, h1, h2⟩ := h.at_ i q hq
 exact ⟨c, h1, h2.keep hk⟩⟩
theorem QL.call {k : IntKind} {W W' : World} {cs : List (List Value)} {qs : List Rat} (h : QL k W cs qs) (hb : Below W.heap.size W W') : QL k W' cs qs := h.keep (KeepK.below hb)
theorem QL.snoc {k : IntKind} {W : World} {cs : List (List Value)} {qs : List Rat} (h : QL k W cs qs) {c : List Value} {q : Rat} (hc : QC k W c q) : QL k W (cs ++ [c]) (qs ++ [q]) := by
 refine ⟨by simp [h.len], fun i x hx => ?_⟩
 by_cases hi : i < qs.length
 ·rw [List.getElem?_append_left hi] at hx
  rw [List.getElem?_append_left (by rw [h.len]; exact hi)]
  exact h.at_ i x hx
 ·have hl := (List.getElem?_eq_some_iff.1 hx).1
  rw [List.length_append, List.length_singleton] at hl
  obtain rfl : i = qs.length := by omega
  rw [List.getElem?_append_right (Nat.le_refl _), Nat.sub_self] at hx
  rw [List.getElem?_append_right (by rw [h.len]; exact Nat.le_refl _), h.len, Nat.sub_self]
  obtain rfl : q = x := by simpa using hx
  exact ⟨c, rfl, hc⟩
theorem QL.set {k : IntKind} {W : World} {cs : List (List Value)} {qs : List Rat} (h : QL k W cs qs) {c : List Value} {q : Rat} (i : Nat) (hc : QC k W c q) : QL k W (cs.set i c) (qs.set i q) := by
 refine ⟨by simp [h.len], fun j x hx => ?_⟩
 by_cases e : i = j
 ·subst e
  have hl := (List.getElem?_eq_some_iff.1 hx).1
  rw [List.length_set] at hl
  rw [List.getElem?_set_self hl] at hx
  rw [List.getElem?_set_self (by rw [h.len]; exact hl), ← Option.some.inj hx]
  exact ⟨c, rfl, hc⟩
 ·rw [List.getElem?_set_ne e] at hx
  rw [List.getElem?_set_ne e]
  exact h.at_ j x hx
open Go.Lib (decDigits nDigits)
theorem make_bytes (n : Nat) (hn : n ≤ 100000000) (W : World) : (Instr.makeSlice 136 (.int .i64 (n : Int)) (.int .i64 (n : Int))).run Tryz.prog W = .ok (.slice (some ⟨W.heap.size, 0, none⟩) n n) (W.alloc (.cells (madeCells #[.int .u8 0] n) 5)) :=
 run_make_row' (P := Tryz.prog) 136 5 (.int .u8 0) 1 Tryz.underlying136 (by kernel_rfl) rfl .i64 .i64 n (by omega) (by omega) W
theorem r1_Write_zero (w : World) (v : Value) (h : IsN .i64 w v 0) : Calls Tryz.prog 76 #[v] w fun e w' => e = .returned (numV 0) ∧ Below w.heap.size w w' := by
 obtain ⟨a, c, rfl, _⟩ := h.openI
 have hl : (limbs 0).length = 0 := by rw [limbs_zero]; rfl
 rw [hl]
 have e : numV 0 = .string ⟨#[48]⟩ := by rw [numV, dec_zero]
 have E := hid e
 clear h hl e
 go_enter Tryz.func76, Tryz.ntmps76
 go_wp2_with fail
 go_ret
 exact ⟨by rw [E.out]; rfl, Below.refl _ _⟩
theorem r1_Write_pos (w : World) (v : Value) (n : Nat) (h : IsN .i64 w v n) (h0 : 0 < n) (hl : (limbs n).length ≤ 1000000) : Calls Tryz.prog 76 #[v] w fun e w' => e = .returned (numV n) ∧ Below w.heap.size w w' := by
 obtain ⟨a, c, rfl, h1, h2, h3⟩ := h.openI
 have H3 := hid h3; clear h3 h
 obtain ⟨L, hL⟩ : ∃ L, (limbs n).length = L := ⟨_, rfl⟩
 have hLp : 0 < L := by rw [← hL]; exact List.length_pos_iff.2 (fun e => by have := limbs_nil.1 e; omega)
 rw [hL] at h1 hl ⊢
 have HL := hid hL; clear hL
 have q0 : ((L : Int) == 0) = false := by simp; omega
 have hmk : ∀ W : World, (Instr.makeSlice 136 (.int .i64 (9 * (L : Int))) (.int .i64 (9 * (L : Int)))).run Tryz.prog W = .ok (.slice (some ⟨W.heap.size, 0, none⟩) (9 * L) (9 * L)) (W.alloc (.cells (madeCells #[.int .u8 0] (9 * L)) 5)) := fun W => by
  have := make_bytes (9 * L) (by omega) W
  rwa [Int.natCast_mul] at this
 go_enter Tryz.func76, Tryz.ntmps76
 go_wp2_with fail
 clear hmk q0
 go_loopw [4, 5, 6] (fun ii nn kk wr => ∃ (i : Nat) (bs : List UInt8), ii = .int .i64 i ∧ i ≤ L ∧ Hid (WrI n i bs) ∧ Hid (BArr 5 wr w.heap.size bs) ∧ Hid (Below w.heap.size w wr)) (fun ii _ _ _ => L - (intOf ii).toNat)
 case atStart => exact ⟨0, _, rfl, Nat.zero_le _, WrI.start n, by rw [HL.out]; exact BArr.made w 5 (9 * L), (Below.refl _ _).alloc (Nat.le_refl _) _⟩
 case round =>
  obtain ⟨i, bs, rfl, hi, hW, hO, hB⟩ := hrel
  by_cases hlt : i < L
  ·obtain ⟨x, hx⟩ : ∃ x, (limbs n)[L - 1 - i]? = some x := ⟨_, List.getElem?_eq_getElem (by rw [HL.out]; omega)⟩
   obtain ⟨g, o, rfl, hg, hc⟩ := H3.out _ x hx
   have d1 := (hB.out.cell (p := ⟨g, o + (L - 1 - i), none⟩) hg).trans hc
   have hxl := (sm_limbs n).get hx
   have HX := hid hx; clear hx hc
   go_wp2_with fail
   go_loopw [5, 6] (fun nn kk wq => ∃ (k y : Nat) (t : Int) (bs : List UInt8), nn = .int .i64 y ∧ kk = .int .i64 t ∧ t = (k : Int) - 1 ∧ k ≤ 9 ∧ y < 1000000000 ∧ Hid (WrJ n i x k y bs) ∧ Hid (BArr 5 wq w.heap.size bs) ∧ Hid (Below w.heap.size w wq)) (fun _ kk _ => (intOf kk + 1).toNat)
   case atStart => exact ⟨9, x, _, bs, rfl, rfl, by omega, by omega, hxl, hW.out.enter, hO, hB⟩
   case round =>
    obtain ⟨k, y, t, bs2, rfl, rfl, ht, hk, hy, hJ, hO2, hB2⟩ := hrel
    have hbl := hid (show bs2.length = 9 * L from by rw [hJ.out.len, HL.out])
    cases k with
    | zero =>
     obtain rfl : t = -1 := by omega
     clear ht
     have HN := hid (hJ.out.leave (by rw [HL.out]; exact HX.out) (by rw [HL.out]; exact hlt))
     go_wp2_with fail
     go_roundw
     case rel => exact ⟨i + 1, bs2, by go_num, by omega, HN, hO2, hB2⟩
     case measure => simp [intOf] <;> omega
    | succ k =>
     obtain rfl : t = (k : Int) := by omega
     clear ht
     have HN := hid (hJ.out.next (by omega) (by rw [HL.out]; exact hlt))
     obtain ⟨z, hz⟩ : ∃ z, bs2[9 * i + k]? = some z := ⟨_, List.getElem?_eq_getElem (by rw [hbl.out]; omega)⟩
     have d3 := hO2.out.cell hz
     have d4 := hO2.out.free (9 * i + k)
     clear hz
     go_wp2_with fail
     go_roundw
     case rel =>
      refine ⟨k, y / 10, _, bs2.set (9 * i + k) (UInt8.ofNat (48 + y % 10)), by go_num, rfl, by omega, by omega, by omega, HN, ?_, below_set hB2.out (Nat.le_refl _) _⟩
      have hz : (48 + (y : Int) % 10) = ((UInt8.ofNat (48 + y % 10)).toNat : Int) := by rw [digit_ofNat (by omega)]; omega
      rw [hz]
      exact hO2.out.set _ _
     case measure => simp [intOf] <;> omega
  ·obtain rfl : i = L := by omega
   obtain ⟨hdig, hval⟩ := WrI.done (by have := hW.out; rw [← HL.out] at this; exact this)
   have HD := hid hdig; have HV := hid hval
   have hbl := hid (show bs.length = 9 * i from by rw [hW.out.len, HL.out])
   clear hdig hval
   go_wp2_with fail
   go_loop [3] (fun b => ∃ r : Nat, r + 1 ≤ 9 * i ∧ b = .slice (some ⟨w.heap.size, r, none⟩) (9 * i - r) (9 * i - r) ∧ Hid (dv (bs.drop r) = n)) (fun b => match b with | .slice _ m _ => m | _ => 0)
   case atStart => exact ⟨0, by omega, rfl, by rw [Hid, List.drop_zero]; exact HV.out⟩
   case round =>
    obtain ⟨r, hr, rfl, hv⟩ := hrel
    obtain ⟨z, hz⟩ : ∃ z, bs[r]? = some z := ⟨_, List.getElem?_eq_getElem (by rw [hbl.out]; omega)⟩
    have d3 := hO.out.cell hz
    obtain ⟨m, hm⟩ : ∃ m, m = 9 * i - r := ⟨_, rfl⟩
    rw [← hm]
    have hm1 : 1 ≤ m := by omega
    have hm9 : m ≤ 9000000 := by omega
    have HM := hid hm
    by_cases hgo : 1 < m ∧ z = 48
    ·obtain ⟨g1, rfl⟩ := hgo
     have q1 : decide ((1 : Int) < (m : Int)) = true := by simp; omega
     have HN := hid (dv_zero_head hz)
     clear hz hm
     go_wp2_with fail
     go_round
     case rel => exact ⟨r + 1, by have := HM.out; omega, by rw [show 9 * i - (r + 1) = m - 1 by have := HM.out; omega], by rw [Hid, HN.out]; exact hv.out⟩
     case measure => simp; omega
    ·have hfin := hid (strip_done HD.out hv.out (by rw [hbl.out]; omega) (by
      rw [hbl.out]
      by_cases h1 : 1 < m
      ·right
       rw [hz]
       intro e
       injection e with e
       exact hgo ⟨h1, e⟩
      ·left; omega))
     have hcv : (convert 136 9 (.slice (some ⟨w.heap.size, r, none⟩) m m)).run Tryz.prog wr = .ok (numV n) wr := by
      have hlen : (bs.drop r).length = m := by rw [List.length_drop, hbl.out, hm]
      have := Go.run_convert_bytes_back (P := Tryz.prog) wr 136 9 5 ⟨w.heap.size, r, none⟩ m (bs.drop r) Tryz.underlying136 Tryz.underlying5 Tryz.underlying9 (fun j hj => by
       rw [Addr.add_lit]
       refine hO.out.cell ?_
       have h2 : r + j < bs.length := by rw [hlen] at hj; rw [hbl.out]; omega
       rw [List.getElem?_eq_getElem h2, List.getElem_drop])
      rw [hlen, hfin.out] at this
      exact this
     by_cases h1 : 1 < m
     ·have q1 : decide ((1 : Int) < (m : Int)) = true := by simp; omega
      have q2 : ((z.toNat : Int) == 48) = false := by
       rw [beq_eq_false_iff_ne]
       intro e
       refine hgo ⟨h1, ?_⟩
       have : z.toNat = (48 : UInt8).toNat := by simp; omega
       exact UInt8.toNat_inj.1 this
      clear hz hm hgo h1
      go_wp2_with fail
      go_ret
      exact ⟨rfl, hB.out⟩
     ·obtain rfl : m = 1 := by omega
      clear hz hm hgo h1
      go_wp2_with fail
      go_ret
      exact ⟨rfl, hB.out⟩
theorem r1_Check (w : World) (s : ByteArray) (hs : s.size ≤ 9223372036854775807) : Calls Tryz.prog 166 #[.string s] w fun e w' => e = .returned (.int .i64 (errN s.data.toList)) ∧ w = w' := by
 have hsl := hid (show s.data.toList.length = s.size from by simp)
 by_cases h0 : s.size = 0
 ·have hnil : s.data.toList = [] := List.eq_nil_of_length_eq_zero (by rw [hsl.out, h0])
  obtain rfl : s = ⟨#[]⟩ := by
   cases s with
   | mk d => simp at hnil; rw [hnil]
  clear hsl h0 hnil hs
  go_enter Tryz.func166, Tryz.ntmps166
  go_wp2_with fail
  go_ret
  exact ⟨ret_int (by rw [errN_bad]; exact fun h => h.1 rfl), rfl⟩
 ·have hpos : 0 < s.size := by omega
  have hne : s.data.toList.isEmpty = false := by
   rw [List.isEmpty_eq_false_iff]
   intro e
   have := hsl.out; rw [e] at this; simp at this; omega
  have hn : ¬ s.toList = [] := by rw [Go.ByteArray.toList_eq]; intro e; rw [e] at hne; cases hne
  have hn2 : s.toList.isEmpty = false := by rw [Go.ByteArray.toList_eq]; exact hne
  have hb0 := hid (byte_get hpos)
  clear hne
  by_cases hz : s[0] = 48 ∧ 1 < s.size
  ·have q1 : ((s[0].toNat : Int) == 48) = true := by rw [hz.1]; rfl
   have q2 : decide ((1 : Int) < (s.size : Int)) = true := by simp; omega
   have hbad := hid (show ¬ isForm s.data.toList from fun h => by
    rcases h.2.1 with h1 | h1
    ·have := congrArg List.length h1
     rw [hsl.out] at this; simp at this; omega
    ·rw [List.head?_eq_getElem?, hb0.out, hz.1] at h1
     exact h1 rfl)
   clear hz
   go_enter Tryz.func166, Tryz.ntmps166
   go_wp2_with fail
   go_ret
   exact ⟨ret_int (by rw [errN_bad hbad.out]), rfl⟩
  ·have hform : allDig s.data.toList → isForm s.data.toList := fun hd => by
    refine ⟨fun e => by have := hsl.out; rw [e] at this; simp at this; omega, ?_, hd⟩
    by_cases h48 : s[0] = 48
    ·left
     have h1 : s.data.toList.length = 1 := by
      have : ¬ 1 < s.size := fun h => hz ⟨h48, h⟩
      rw [hsl.out]; omega
     match hm : s.data.toList, h1 with
     | [c], _ =>
      have := hb0.out
      rw [hm] at this
      simp at this
      rw [this, h48]
    ·right
     rw [List.head?_eq_getElem?, hb0.out]
     simpa using h48
   have HF := hid hform
   have hI : (((s[0].toNat : Int) == 48) = false ∧ decide ((1 : Int) < (s.size : Int)) = decide ((1 : Int) < (s.size : Int))) ∨ (((s[0].toNat : Int) == 48) = true ∧ decide ((1 : Int) < (s.size : Int)) = false) := by
    by_cases h48 : s[0] = 48
    ·right
     have : ¬ 1 < s.size := fun h => hz ⟨h48, h⟩
     refine ⟨by rw [h48]; rfl, by simp; omega⟩
    ·left
     refine ⟨?_, rfl⟩
     rw [beq_eq_false_iff_ne]
     intro e
     refine h48 ?_
     have : s[0].toNat = (48 : UInt8).toNat := by simp; omega
     exact UInt8.toNat_inj.1 this
   clear hform hz
   rcases hI with ⟨q1, -⟩ | ⟨q1, q2⟩
   all_goals
    go_enter Tryz.func166, Tryz.ntmps166
    go_wp2_with fail
    clear q1
    go_loop [3] (fun ii => ∃ i : Nat, ii = .int .i64 i ∧ i ≤ s.size ∧ Hid (∀ (j : Nat) (b : UInt8), j < i → s.data.toList[j]? = some b → isDig b = true)) (fun ii => s.size - (intOf ii).toNat)
    case atStart => exact ⟨0, rfl, Nat.zero_le _, fun j b hj => absurd hj (by omega)⟩
    case round =>
     obtain ⟨i, rfl, hi, hI⟩ := hrel
     by_cases hlt : i < s.size
     ·have hb := hid (byte_get hlt)
      have hbad : ¬ isDig s[i] = true → ¬ isForm s.data.toList := fun h hf => h (hf.2.2 _ (List.mem_of_getElem? hb.out))
      by_cases c1 : s[i].toNat < 48
      ·have q1 : decide ((s[i].toNat : Int) < 48) = true := by simp; omega
       have hB := hid (hbad (fun e => by have := isDig_iff.1 e; omega))
       clear hbad c1
       go_wp2_with fail
       go_ret
       exact ⟨ret_int (by rw [errN_bad hB.out]), rfl⟩
      ·by_cases c2 : 57 < s[i].toNat
       ·have q1 : decide ((s[i].toNat : Int) < 48) = false := by simp; omega
        have q2 : decide ((57 : Int) < (s[i].toNat : Int)) = true := by simp; omega
        have hB := hid (hbad (fun e => by have := isDig_iff.1 e; omega))
        clear hbad c1 c2
        go_wp2_with fail
        go_ret
        exact ⟨ret_int (by rw [errN_bad hB.out]), rfl⟩
       ·have q1 : decide ((s[i].toNat : Int) < 48) = false := by simp; omega
        have q2 : decide ((57 : Int) < (s[i].toNat : Int)) = false := by simp; omega
        have hD := hid (isDig_iff.2 (show 48 ≤ s[i].toNat ∧ s[i].toNat ≤ 57 by omega))
        clear hbad c1 c2
        go_wp2_with fail
        go_round
        case rel => exact ⟨i + 1, by go_num, by omega, fun j b hj hjb => by
         by_cases e : j = i
         ·subst e; have := hb.out; rw [hjb] at this; cases this; exact hD.out
         ·exact hI.out j b (by omega) hjb⟩
        case measure => simp [intOf] <;> omega
     ·obtain rfl : i = s.size := by omega
      have hF := hid (HF.out fun b hb => by
       obtain ⟨j, hj⟩ := List.getElem?_of_mem hb
       exact hI.out j b (by have := (List.getElem?_eq_some_iff.1 hj).1; rw [hsl.out] at this; exact this) hj)
      by_cases hlong : 4000 < s.size
      ·have q3 : decide ((4000 : Int) < (s.size : Int)) = true := by simp; omega
       have HL := hid hlong; clear hlong
       go_wp2_with fail
       go_ret
       exact ⟨ret_int (by rw [errN_long hF.out (by rw [hsl.out]; exact HL.out)]), rfl⟩
      ·have q3 : decide ((4000 : Int) < (s.size : Int)) = false := by simp; omega
       have HL := hid hlong; clear hlong
       go_wp2_with fail
       go_ret
       exact ⟨ret_int (by rw [errN_ok hF.out (by rw [hsl.out]; exact HL.out)]), rfl⟩
end Go.Proofs.YtlimaehdmcnjaaaGreatDoor
namespace Go.Proofs.YtlimaehdmcnjaaaGreatDoor
open Go.RowKit
theorem r2_digits (w : World) (s : ByteArray) (hs : s.size ≤ 9223372036854775807) : Calls Tryz.prog 125 #[.string s] w fun e w' =>
 e = .returned (.bool (formB s.data.toList)) ∧ w = w' := by
 by_cases hf : formB s.data.toList = true
 ·by_cases hl : 4000 < s.data.toList.length
  ·have H5 := hid (show errN s.data.toList = 5 from by rw [errN, if_pos hf, if_pos hl])
   have HF := hid hf
   rw [hf]
   clear hf hl
   go_enter Tryz.func125, Tryz.ntmps125
   go_wp2_with fail
   refine (r1_Check _ s hs).mono ?_; rintro e w1 ⟨rfl, rfl⟩
   rw [H5.out]
   go_wp2_with fail
   go_ret
   exact ⟨rfl, rfl⟩
  ·have H5 := hid (show errN s.data.toList = 0 from by rw [errN, if_pos hf, if_neg hl])
   have HF := hid hf
   rw [hf]
   clear hf hl
   go_enter Tryz.func125, Tryz.ntmps125
   go_wp2_with fail
   refine (r1_Check _ s hs).mono ?_; rintro e w1 ⟨rfl, rfl⟩
   rw [H5.out]
   go_wp2_with fail
   go_ret
   exact ⟨rfl, rfl⟩
 ·have H5 := hid (show errN s.data.toList = 3 from by rw [errN, if_neg hf])
  have hf' : formB s.data.toList = false := by simpa using hf
  rw [hf']
  clear hf hf'
  go_enter Tryz.func125, Tryz.ntmps125
  go_wp2_with fail
  refine (r1_Check _ s hs).mono ?_; rintro e w1 ⟨rfl, rfl⟩
  rw [H5.out]
  go_wp2_with fail
  go_ret
  exact ⟨rfl, rfl⟩
def isSlash (l : List UInt8) (k : Nat) : Prop := k ≤ l.length ∧ (∀ (j : Nat) (b : UInt8), j < k → l[j]? = some b → b ≠ 47) ∧ (k < l.length → l[k]? = some 47)
theorem r2_slash (w : World) (s : ByteArray) (hs : s.size ≤ 9223372036854775807) : Calls Tryz.prog 123 #[.string s] w fun e w' =>
 (∃ k : Nat, e = .returned (.int .i64 k) ∧ isSlash s.data.toList k) ∧ w = w' := by
 have hsl := hid (show s.data.toList.length = s.size from by simp)
 go_enter Tryz.func123, Tryz.ntmps123
 go_wp2_with fail
 go_loop [3] (fun ii => ∃ i : Nat, ii = .int .i64 i ∧ i ≤ s.size ∧ Hid (∀ (j : Nat) (b : UInt8), j < i → s.data.toList[j]? = some b → b ≠ 47)) (fun ii => s.size - (intOf ii).toNat)
 case atStart => exact ⟨0, rfl, Nat.zero_le _, fun j b hj => absurd hj (by omega)⟩
 case round =>
  obtain ⟨i, rfl, hi, hI⟩ := hrel
  by_cases hlt : i < s.size
  ·have hb := hid (byte_get hlt)
   by_cases c1 : s[i] = 47
   ·have q1 : ((s[i].toNat : Int) == 47) = true := by rw [c1]; rfl
    have hB := hid c1
    clear c1
    go_wp2_with fail
    go_ret
    exact ⟨⟨i, rfl, by rw [hsl.out]; omega, hI.out, fun _ => by rw [hb.out, hB.out]⟩, rfl⟩
   ·have q1 : ((s[i].toNat : Int) == 47) = false := by
     rw [beq_eq_false_iff_ne]
     intro e
     refine c1 ?_
     have : s[i].toNat = (47 : UInt8).toNat := by simp; omega
     exact UInt8.toNat_inj.1 this
    have hB := hid c1
    clear c1
    go_wp2_with fail
    go_round
    case rel => exact ⟨i + 1, by go_num, by omega, fun j b hj hjb => by
     by_cases e : j = i
     ·subst e; rw [hb.out] at hjb; cases hjb; exact hB.out
     ·exact hI.out j b (by omega) hjb⟩
    case measure => simp [intOf] <;> omega
  ·have e1 : i = s.size := by omega
   subst e1
   go_wp2_with fail
   go_ret
   exact ⟨⟨s.size, rfl, by rw [hsl.out]; omega, hI.out, fun h => by rw [hsl.out] at h; omega⟩, rfl⟩
theorem r2_integer_minus (w : World) (s : ByteArray) (hs : s.size ≤ 9223372036854775807) (h0 : 0 < s.size) (h1 : s[0] = 45) : Calls Tryz.prog 124 #[.string s] w fun e w' =>
 e = .returned (.tuple #[.bool true, .string (s.extract 1 s.size), .bool (formB (s.extract 1 s.size).data.toList && !decide ((s.extract 1 s.size).data.toList = [48]))]) ∧ w = w' := by
 have q0 : decide ((0 : Int) < (s.size : Int)) = true := by simp; omega
 have q1 : ((s[0].toNat : Int) == 45) = true := by rw [h1]; rfl
 have H0 := hid h1
 clear h1
 have hts : (s.extract 1 s.size).size ≤ 9223372036854775807 := by simp; omega
 obtain ⟨t, ht⟩ : ∃ t, s.extract 1 s.size = t := ⟨_, rfl⟩
 rw [ht] at hts ⊢
 have HT := hid ht
 obtain ⟨f, hf⟩ : ∃ f, formB t.data.toList = f := ⟨_, rfl⟩
 rw [hf]
 have HF := hid hf
 clear ht hf
 go_enter Tryz.func124, Tryz.ntmps124
 go_wp2_with fail
 rw [HT.out]
 refine (r2_digits _ t hts).mono ?_; rintro e w1 ⟨rfl, rfl⟩
 rw [HF.out]
 cases f
 ·go_wp2_with fail
  exact bodyPost_ret (v := .tuple #[.bool true, .string t, .bool false]) (by simp [results, Tryz.results124, go_sem]) rfl ⟨by simp, rfl⟩
 ·go_wp2_with fail
  refine bodyPost_ret (v := .tuple #[.bool true, .string t, .bool (!(t.toList == [48]))]) (by simp [results, Tryz.results124, go_sem]) rfl ⟨?_, rfl⟩
  rw [Go.ByteArray.toList_eq]
  simp
  exact Bool.eq_iff_iff.2 (by simp)
theorem r2_integer_plain (w : World) (s : ByteArray) (hs : s.size ≤ 9223372036854775807) (h1 : ∀ h : 0 < s.size, s[0] ≠ 45) : Calls Tryz.prog 124 #[.string s] w fun e w' =>
 e = .returned (.tuple #[.bool false, .string s, .bool (formB s.data.toList)]) ∧ w = w' := by
 obtain ⟨f, hf⟩ : ∃ f, formB s.data.toList = f := ⟨_, rfl⟩
 rw [hf]
 have HF := hid hf
 clear hf
 by_cases h0 : 0 < s.size
 ·have q0 : decide ((0 : Int) < (s.size : Int)) = true := by simp; omega
  have q1 : ((s[0].toNat : Int) == 45) = false := by
   rw [beq_eq_false_iff_ne]
   intro e
   refine h1 h0 ?_
   have : s[0].toNat = (45 : UInt8).toNat := by simp; omega
   exact UInt8.toNat_inj.1 this
  clear h1
  go_enter Tryz.func124, Tryz.ntmps124
  go_wp2_with fail
  refine (r2_digits _ s hs).mono ?_; rintro e w1 ⟨rfl, rfl⟩
  rw [HF.out]
  cases f
  all_goals
   go_wp2_with fail
   exact bodyPost_ret (v := .tuple #[.bool false, .string s, .bool _]) (by simp [results, Tryz.results124, go_sem]) rfl ⟨rfl, rfl⟩
 ·obtain rfl : s = ⟨#[]⟩ := by
   apply ByteArray.ext
   exact Array.eq_empty_of_size_eq_zero (by have : s.data.size = s.size := rfl; omega)
  clear h1 h0 hs
  go_enter Tryz.func124, Tryz.ntmps124
  go_wp2_with fail
  refine (r2_digits _ ⟨#[]⟩ (Nat.zero_le _)).mono ?_; rintro e w1 ⟨rfl, rfl⟩
  rw [HF.out]
  cases f
  all_goals
   go_wp2_with fail
   exact bodyPost_ret (v := .tuple #[.bool false, .string ⟨#[]⟩, .bool _]) (by simp [results, Tryz.results124, go_sem]) rfl ⟨rfl, rfl⟩
open Go.Lib (decDigits nDigits)
theorem ba_list_iff {a b : ByteArray} : a.data.toList = b.data.toList ↔ a = b := ⟨ba_ext, fun e => by rw [e]⟩
theorem r2_integer (w : World) (s : ByteArray) (hs : s.size ≤ 9223372036854775807) : Calls Tryz.prog 124 #[.string s] w fun e w' =>
 e = .returned (.tuple #[.bool (iM s), .string (iD s), .bool (iB s)]) ∧ w = w' := by
 have hl : s.data.toList.length = s.size := by simp
 by_cases h : ∃ h0 : 0 < s.size, s[0] = 45
 ·obtain ⟨h0, h1⟩ := h
  have hg := byte_get h0
  rw [h1] at hg
  obtain ⟨t, ht⟩ : ∃ t, s.data.toList = 45 :: t := by
   cases hc : s.data.toList with
   | nil => rw [hc] at hg; simp at hg
   | cons b t => rw [hc] at hg; simp at hg; exact ⟨t, by rw [hg]⟩
  have hM : iM s = true := by unfold iM Lib.hasPrefix; rw [ht]; simp [List.isPrefixOf]
  have hD : iD s = s.extract 1 s.size := by
   apply ba_ext
   rw [extract_list, ht]
   unfold iD Lib.trimPrefix
   rw [show Lib.hasPrefix s.data.toList [45] = true from hM, ht]
   have : s.size = t.length + 1 := by rw [← hl, ht]; simp
   simp [this]
  have H := r2_integer_minus w s hs h0 h1
  rw [← hD] at H
  have e : iB s = (formB (iD s).data.toList && !decide ((iD s).data.toList = [48])) := by
   unfold iB fB
   rw [hM, Bool.true_and]
   have : decide (iD s = ⟨#[48]⟩) = decide ((iD s).data.toList = [48]) := decide_eq_decide.2 (by rw [← ba_list_iff])
   rw [this]
  rw [hM, e]
  exact H
 ·have h1 : ∀ h : 0 < s.size, s[0] ≠ 45 := fun h0 e => h ⟨h0, e⟩
  have hM : iM s = false := by
   unfold iM Lib.hasPrefix
   cases hc : s.data.toList with
   | nil => rfl
   | cons b t =>
    have h0 : 0 < s.size := by rw [← hl, hc]; simp
    have hg := byte_get h0
    rw [hc] at hg
    simp at hg
    have h3 : ((45 : UInt8) == b) = false := by rw [beq_eq_false_iff_ne, hg]; exact fun e => h1 h0 e.symm
    simp [List.isPrefixOf, h3]
  have hD : iD s = s := by
   apply ba_ext
   unfold iD Lib.trimPrefix
   rw [show Lib.hasPrefix s.data.toList [45] = false from hM]
   simp
  have H := r2_integer_plain w s hs h1
  have e : iB s = formB s.data.toList := by unfold iB fB; rw [hM, hD]; simp
  rw [hM, hD, e]
  exact H
theorem slash_cut {s : ByteArray} {k : Nat} (h : isSlash s.data.toList k) : k ≤ s.size ∧ cW s = s.extract 0 k ∧ cS s = decide (k < s.size) ∧ (k < s.size → cB s = s.extract (k + 1) s.size) := by
 obtain ⟨h1, h2, h3⟩ := h
 have hl : s.data.toList.length = s.size := by simp
 rcases sl_cases s.data.toList with hn | ⟨A, B, hA, e⟩
 ·have hk : k = s.size := by
   rcases Nat.lt_or_ge k s.data.toList.length with hlt | hge
   ·exact absurd rfl (hn 47 (List.mem_of_getElem? (h3 hlt)))
   ·omega
  have hc := cut_none hn
  subst hk
  refine ⟨Nat.le_refl _, ?_, ?_, fun h => absurd h (Nat.lt_irrefl _)⟩
  ·apply ba_ext; rw [extract_list]; unfold cW; rw [hc, List.drop_zero, Nat.sub_zero, ← hl, List.take_length]
  ·unfold cS; rw [hc]; simp
 ·have hL : s.data.toList.length = A.length + 1 + B.length := by rw [e]; simp; omega
  have hk : k = A.length := by
   rcases Nat.lt_trichotomy k A.length with hlt | heq | hgt
   ·have := h3 (by omega)
    rw [e, List.getElem?_append_left hlt] at this
    exact absurd rfl (hA 47 (List.mem_of_getElem? this))
   ·exact heq
   ·exact absurd rfl (h2 A.length 47 hgt (by rw [e]; simp))
  have hc := cut_at (r := B) hA
  rw [← e] at hc
  subst hk
  refine ⟨by omega, ?_, ?_, fun _ => ?_⟩
  ·apply ba_ext; rw [extract_list, e]; unfold cW; rw [hc]; simp
  ·unfold cS; rw [hc]; simp; omega
  ·apply ba_ext; rw [extract_list]; unfold cB; rw [hc]
   have : s.size - (A.length + 1) = B.length := by omega
   rw [this, e, show A ++ 47 :: B = (A ++ [47]) ++ B by simp, List.drop_left' (by simp), List.take_length]
end Go.Proofs.YtlimaehdmcnjaaaGreatDoor
namespace Go.Proofs.YtlimaehdmcnjaaaGreatDoor
open Go.RowKit
theorem r1_Order (w : World) (v u : Value) (a b : Nat) (ha : IsN .i64 w v a) (hb : IsN .i64 w u b) :
 Calls Tryz.prog 88 #[v, u] w fun e w' => e = .returned (.int .i64 (ordN a b)) ∧ Below w.heap.size w w' := by
 obtain ⟨a1, c1, rfl, h1, h2, h3⟩ := ha.openI
 obtain ⟨a2, c2, rfl, k1, k2, k3⟩ := hb.openI
 have H3 := hid h3; have K3 := hid k3; clear h3 k3 ha hb
 by_cases hne : (limbs a).length = (limbs b).length
 ·obtain ⟨n, ea⟩ : ∃ n, (limbs a).length = n := ⟨_, rfl⟩
  have eb : (limbs b).length = n := hne.symm.trans ea
  rw [ea] at h1 ⊢
  rw [eb] at k1 ⊢
  have HA := hid ea; have HB := hid eb
  clear hne ea eb
  go_enter Tryz.func88, Tryz.ntmps88
  go_wp2_with fail
  go_loopw [5] (fun i wr => ∃ (k : Nat) (t : Int), k ≤ n ∧ i = .int .i64 t ∧ t = (k : Int) - 1 ∧ Hid ((limbs a).drop k = (limbs b).drop k) ∧ Hid (Below w.heap.size w wr)) (fun i _ => (intOf i + 1).toNat)
  case atStart => exact ⟨n, _, Nat.le_refl _, rfl, rfl, by rw [Hid, List.drop_of_length_le (by rw [HA.out]; exact Nat.le_refl _), List.drop_of_length_le (by rw [HB.out]; exact Nat.le_refl _)], Below.refl _ _⟩
  case round =>
   obtain ⟨k, t, hk, rfl, ht, hd, hB⟩ := hrel
   cases k with
   | zero =>
    obtain rfl : t = -1 := by omega
    clear ht
    go_wp2_with fail
    go_ret
    have : a = b := limbs_inj hd.out
    subst this
    exact ⟨ret_int ordN_eq.symm, hB.out⟩
   | succ k =>
    obtain rfl : t = (k : Int) := by omega
    clear ht
    obtain ⟨x, hx⟩ : ∃ x, (limbs a)[k]? = some x := ⟨_, List.getElem?_eq_getElem (by rw [HA.out]; omega)⟩
    obtain ⟨y, hy⟩ : ∃ y, (limbs b)[k]? = some y := ⟨_, List.getElem?_eq_getElem (by rw [HB.out]; omega)⟩
    obtain ⟨g, o, rfl, hg, hc⟩ := H3.out k x hx
    obtain ⟨g', o', rfl, hg', hc'⟩ := K3.out k y hy
    have d1 := (hB.out.cell (p := ⟨g, o + k, none⟩) hg).trans hc
    have d2 := (hB.out.cell (p := ⟨g', o' + k, none⟩) hg').trans hc'
    have HX := hid hx; have HY := hid hy; clear hx hy hc hc'
    have b1 : (0 : Int) ≤ (k : Int) := by omega
    have b2 : (k : Int) < (n : Int) := by omega
    rcases Nat.lt_trichotomy x y with hlt | heq | hgt
    ·have q1 : decide (x < y) = true := by simpa using hlt
     go_wp2_with fail
     go_quiet (fail)
     go_wp2_with fail
     go_ret
     exact ⟨ret_int (ordN_lt (ord_lt_at (HA.out.trans HB.out.symm) HX.out HY.out hd.out hlt)).symm, below_drewN hB.out _⟩
    ·have q1 : decide (x < y) = false := by simp; omega
     have q2 : decide (y < x) = false := by simp; omega
     go_wp2_with fail
     go_quiet (fail)
     go_wp2_with fail
     go_quiet (fail)
     go_wp2_with fail
     go_roundw
     case rel => exact ⟨k, _, by omega, rfl, rfl, drop_eq_next HX.out (by rw [HY.out, heq]) hd.out, below_drewN hB.out _⟩
     case measure => simp [intOf] <;> omega
    ·have q1 : decide (x < y) = false := by simp; omega
     have q2 : decide (y < x) = true := by simpa using hgt
     go_wp2_with fail
     go_quiet (fail)
     go_wp2_with fail
     go_quiet (fail)
     go_wp2_with fail
     go_ret
     exact ⟨ret_int (ordN_gt (ord_lt_at (HB.out.trans HA.out.symm) HY.out HX.out hd.out.symm hgt)).symm, below_drewN (below_drewN hB.out _) _⟩
 ·rcases Nat.lt_or_gt_of_ne hne with hlt | hgt
  ·have HL := hid (lt_of_length hlt)
   have q0 : (((limbs a).length : Int) != ((limbs b).length : Int)) = true := by simp; omega
   have q1 : decide ((limbs a).length < (limbs b).length) = true := by simpa using hlt
   clear hne
   go_enter Tryz.func88, Tryz.ntmps88
   go_wp2_with fail
   go_ret
   exact ⟨ret_int (ordN_lt HL.out).symm, Below.refl _ _⟩
  ·have HL := hid (lt_of_length hgt)
   have q0 : (((limbs a).length : Int) != ((limbs b).length : Int)) = true := by simp; omega
   have q1 : decide ((limbs a).length < (limbs b).length) = false := by simp; omega
   clear hne
   go_enter Tryz.func88, Tryz.ntmps88
   go_wp2_with fail
   go_ret
   exact ⟨ret_int (ordN_gt HL.out).symm, Below.refl _ _⟩
theorem make_limbs (n : Nat) (hn : n ≤ 3000000) (W : World) : (Instr.makeSlice 77 (.int .i64 (n : Int)) (.int .i64 (n : Int))).run Tryz.prog W = .ok (.slice (some ⟨W.heap.size, 0, none⟩) n n) (W.alloc (.cells (madeCells #[.int .i64 0] n) 3)) :=
 run_make_row' (P := Tryz.prog) 77 3 (.int .i64 0) 8 Tryz.underlying77 (by kernel_rfl) rfl .i64 .i64 n (by omega) (by omega) W
theorem r1_Times (w : World) (v u : Value) (a b : Nat) (ha : IsN .i64 w v a) (hb : IsN .i64 w u b) (hla : (limbs a).length ≤ 1000000) (hlb : (limbs b).length ≤ 1000000) :
 Calls Tryz.prog 110 #[v, u] w fun e w' => RetN .i64 (a * b) e w' ∧ Below w.heap.size w w' := by
 obtain ⟨a1, c1, rfl, h1, h2, h3⟩ := ha.openI
 obtain ⟨a2, c2, rfl, k1, k2, k3⟩ := hb.openI
 have H3 := hid h3; have K3 := hid k3; clear h3 k3 ha hb
 obtain ⟨n, ea⟩ : ∃ n, (limbs a).length = n := ⟨_, rfl⟩
 obtain ⟨m, eb⟩ : ∃ m, (limbs b).length = m := ⟨_, rfl⟩
 rw [ea] at h1 hla ⊢
 rw [eb] at k1 hlb ⊢
 have HA := hid ea; have HB := hid eb
 clear ea eb
 have hmk : ∀ W : World, (Instr.makeSlice 77 (.int .i64 ((n : Int) + m)) (.int .i64 ((n : Int) + m))).run Tryz.prog W = .ok (.slice (some ⟨W.heap.size, 0, none⟩) (n + m) (n + m)) (W.alloc (.cells (madeCells #[.int .i64 0] (n + m)) 3)) := fun W => by
  have := make_limbs (n + m) (by omega) W
  rwa [Int.natCast_add] at this
 go_enter Tryz.func110, Tryz.ntmps110
 go_wp2_with fail
 clear hmk
 go_loopw [6] (fun i wr => ∃ (k : Nat) (o : List Nat), i = .int .i64 k ∧ k ≤ n ∧ Hid (MulI a b k o) ∧ Hid (Arr .i64 3 wr w.heap.size o) ∧ Hid (Below w.heap.size w wr)) (fun i _ => n - (intOf i).toNat)
 case atStart => exact ⟨0, _, rfl, Nat.zero_le _, MulI.start a b, by rw [HA.out, HB.out]; exact Arr.made w .i64 3 (n + m), (Below.refl _ _).alloc (Nat.le_refl _) _⟩
 case round =>
  obtain ⟨i, o, rfl, hin, hM, hO, hB⟩ := hrel
  by_cases hlt : i < n
  ·obtain ⟨x, hx⟩ : ∃ x, (limbs a)[i]? = some x := ⟨_, List.getElem?_eq_getElem (by rw [HA.out]; exact hlt)⟩
   obtain ⟨g, og, rfl, hg, hc⟩ := H3.out _ x hx
   have HX := hid hx; have HC := hid hc; clear hx hc
   have hsize := hid (show o.length = n + m from by rw [hM.out.len, HA.out, HB.out])
   go_wp2_with fail
   obtain ⟨wo, rfl⟩ : ∃ wo : World, wo = wr := ⟨_, rfl⟩
   go_loopw [7, 8, 9] (fun cc kk nn wq => ∃ (c k : Nat) (o : List Nat), cc = .int .i64 c ∧ kk = .int .i64 k ∧ k ≤ m ∧ Hid (MulJ a b i x k c o) ∧ Hid (Arr .i64 3 wq w.heap.size o) ∧ Hid (Below w.heap.size w wq)) (fun _ kk _ _ => m - (intOf kk).toNat)
   case atStart => exact ⟨0, 0, o, rfl, rfl, Nat.zero_le _, hM.out.enter, hO, hB⟩
   case round =>
    obtain ⟨c, k, o, rfl, rfl, hkm, hJ, hO, hB⟩ := hrel
    have hsz : Hid (o.length = n + m) := by rw [Hid, hJ.out.len, HA.out, HB.out]
    by_cases hkl : k < m
    ·obtain ⟨y, hy⟩ : ∃ y, (limbs b)[k]? = some y := ⟨_, List.getElem?_eq_getElem (by rw [HB.out]; exact hkl)⟩
     obtain ⟨g', og', rfl, hg', hd⟩ := K3.out _ y hy
     obtain ⟨old, ho⟩ : ∃ old, o[i + k]? = some old := ⟨_, List.getElem?_eq_getElem (by rw [hsz.out]; omega)⟩
     have d1 := (hB.out.cell (p := ⟨g, og + i, none⟩) hg).trans HC.out
     have d2 := (hB.out.cell (p := ⟨g', og' + k, none⟩) hg').trans hd
     have d3 := hO.out.cell ho
     have d4 := hO.out.free (i + k)
     have hb1 := mul_bound (hJ.out.sm.get ho) ((sm_limbs a).get HX.out) ((sm_limbs b).get hy) hJ.out.c1
     have HN := hid (hJ.out.next HX.out hy ho)
     have hol := hJ.out.sm.get ho
     have hcl := hJ.out.c1
     have HP := hid (show ((x : Int) * (y : Int)) = ((x * y : Nat) : Int) from (Int.natCast_mul x y).symm)
     obtain ⟨p, hp⟩ : ∃ p, x * y = p := ⟨_, rfl⟩
     rw [hp] at hb1 HN HP
     have hp2 := hb1.2; have hb1 := hb1.1
     clear hd hy ho hp
     have e1 : (0 : Int) ≤ (i : Int) + k := by omega
     have e2 : (i : Int) + k < (n : Int) + m := by omega
     have f1 : (0 : Int) ≤ (i : Int) := by omega
     have f2 : (i : Int) < (n : Int) := by omega
     have f3 : (0 : Int) ≤ (k : Int) := by omega
     have f4 : (k : Int) < (m : Int) := by omega
     have e3 : IntKind.i64.wrap ((i : Int) + k) = (i : Int) + k := IntWalk.i64_in _ (by omega)
     have e4 : ((i : Int) + k).toNat = i + k := by omega
     have e5 : IntKind.i64.wrap ((x : Int) * (y : Int)) = (p : Int) := by rw [HP.out]; exact IntWalk.i64_in _ (by omega)
     have e6 : IntKind.i64.wrap ((old : Int) + (p : Int)) = (old : Int) + (p : Int) := IntWalk.i64_in _ (by omega)
     have e7 : IntKind.i64.wrap ((old : Int) + (p : Int) + (c : Int)) = (old : Int) + (p : Int) + (c : Int) := IntWalk.i64_in _ (by omega)
     go_wp2_with fail
     go_quiet (fail)
     clear e3 e4 e5 e6 e7
     go_wp2_with fail
     go_roundw
     case rel =>
      have hz : (((old : Int) + p + c) % 1000000000) = (((old + p + c) % 1000000000 : Nat) : Int) := by omega
      rw [hz]
      exact ⟨(old + p + c) / 1000000000, k + 1, _, by go_num, by go_num, by omega, HN, (hO.out.drewN _).set (i + k) _, below_set (below_drewN hB.out _) (Nat.le_refl _) _⟩
     case measure => simp [intOf] <;> omega
    ·obtain rfl : k = m := by omega
     have HJ := hid (show MulI a b (i + 1) (o.set (i + k) c) from by have := hJ.out; rw [← HB.out] at this ⊢; exact this.leave HX.out)
     obtain ⟨z, hz⟩ : ∃ z, o[i + k]? = some z := ⟨_, List.getElem?_eq_getElem (by rw [hsz.out]; omega)⟩
     have d3 := hO.out.cell hz
     have d4 := hO.out.free (i + k)
     clear hz
     go_wp2_with fail
     go_roundw
     case rel => exact ⟨i + 1, _, by go_num, by omega, HJ, hO.out.set (i + k) c, below_set hB.out (Nat.le_refl _) _⟩
     case measure => simp [intOf] <;> omega
  ·obtain rfl : i = n := by omega
   have hv := hid (show val o = a * b from MulI.done (by have := hM.out; rw [← HA.out] at this; exact this))
   have hl := hid (show o.length = i + m from by rw [hM.out.len, HA.out, HB.out])
   have hr := hid (show Row wr (.slice (some ⟨w.heap.size, 0, none⟩) (i + m) (i + m)) (ints .i64 o) from by
    have := hO.out.row (n := i + m) (c := i + m) (by rw [hl.out]; exact Nat.le_refl _) (Nat.le_refl _) (by unfold maxLen; omega)
    rwa [List.take_of_length_le (by rw [hl.out]; exact Nat.le_refl _)] at this)
   go_wp2_with (go_at_call 122; refine (r1_trim _ _ o hM.out.sm hr.out).mono ?_; rintro e w1 ⟨⟨v1, rfl, hv1⟩, rfl⟩)
   go_ret
   exact ⟨⟨v1, rfl, by rw [← hv.out]; exact hv1⟩, hB.out⟩
theorem r1_ReadF (w : World) (s : ByteArray) (hd : allDig s.data.toList) (hs : s.size ≤ 1000000) :
 Calls Tryz.prog 73 #[.string s] w fun e w' => RetFr w.heap.size .i64 (dv s.data.toList) e w' ∧ Below w.heap.size w w' := by
 obtain ⟨i0, hi, hz0, hz1, hz2⟩ := info_parts info_int
 have HD := hid hd; clear hd
 have hsl := hid (show s.data.toList.length = s.size from by simp)
 go_enter Tryz.func73, Tryz.ntmps73
 go_wp2_with fail
 go_loopw [3, 4, 5, 6] (fun o ee nn ii wr => ∃ (l : List Nat) (t : Int) (e : Nat), ee = .int .i64 t ∧ t ≤ s.size ∧ -9 < t ∧ e = t.toNat ∧ l.length ≤ s.size ∧ l.length + e ≤ s.size ∧ Hid (ReadI s.data.toList e l) ∧ Hid (wr.ownsRow w.heap.size 3 1 o l.length (ints .i64 l)) ∧ Hid (Below w.heap.size w wr))
  (fun _ ee _ _ _ => (intOf ee).toNat)
 case atStart => exact ⟨[], _, s.size, rfl, by omega, by omega, by simp, by simp, by simp, by have := ReadI.start s.data.toList; rw [hsl.out] at this; exact this, World.ownsRow_nil _ _ _ _, Below.refl _ _⟩
 case round =>
  obtain ⟨l, t, e, rfl, ht1, ht2, he, hl1, hl2, hR, hO, hB⟩ := hrel
  obtain ⟨ao, co, rfl⟩ := owns_ex hO.out
  by_cases h0 : e = 0
  ·have q0 : decide ((0 : Int) < t) = false := by simp; omega
   subst h0
   have hv := hid hR.out.done
   clear he
   go_wp2_with fail
   refine (r1_trim_at _ _ _ l hR.out.sm (Row.of_owns hO.out)).mono ?_
   rintro e w1 ⟨⟨m, rfl, hv1⟩, rfl⟩
   go_wp2_with fail
   go_ret
   refine ⟨⟨_, rfl, by rw [← hv.out]; exact hv1, fun g hg => (hO.out.lt g ?_).1⟩, hB.out⟩
   cases ao with
   | none => simp [Value.ownBlock] at hg
   | some ad => simpa [Value.ownBlock] using hg
  ·obtain rfl : t = (e : Int) := by omega
   clear he
   have q0 : decide ((0 : Int) < (e : Int)) = true := by simp; omega
   obtain ⟨L, hL⟩ : ∃ L, s.data.toList = L := ⟨_, rfl⟩
   obtain ⟨s0, hs0⟩ : ∃ s0, s0 = e - 9 := ⟨_, rfl⟩
   have HS0 := hid hs0
   have h3 : s0 ≤ e := by omega
   have h4 : e ≤ s0 + 9 := by omega
   have hI : (9 < e ∧ (e : Int) - 9 = (s0 : Int)) ∨ (e ≤ 9 ∧ (0 : Int) = (s0 : Int)) := by omega
   clear hs0
   rcases hI with ⟨h9, hse⟩ | ⟨h9, hse⟩
   all_goals
    have HSE := hid hse
    clear hse
    go_wp2_with fail
    go_loop [5, 6] (fun nn ii => ∃ (i x : Nat), ii = .int .i64 i ∧ nn = .int .i64 x ∧ s0 ≤ i ∧ i ≤ e ∧ x < 1000000000 ∧ Hid (x = dv ((L.drop s0).take (i - s0)))) (fun _ ii => e - (intOf ii).toNat)
    case atStart => exact ⟨s0, 0, by have hh := HSE.out; first | (rw [← hh]; done) | (congr 1; omega), rfl, Nat.le_refl _, h3, by omega, by simp [Hid]⟩
    case round =>
     obtain ⟨i, x, rfl, rfl, hi1, hi2, hx, hxd⟩ := hrel
     by_cases hlt : i < e
     ·have hsz : i < s.size := by omega
      have hb := byte_get hsz
      rw [hL] at hb
      have hdig := isDig_iff.1 (HD.out s[i] (List.mem_of_getElem? (by rw [hL]; exact hb)))
      have hd1 := hdig.1; have hd2 := hdig.2
      have hcs := hid (chunk_succ hb hi1)
      have hlt9 := hid (chunk_lt (L := L) (a := s0) (k := i + 1 - s0) (by rw [← hL]; exact HD.out) (by omega))
      clear hb hdig
      go_wp2_with fail
      go_round
      case rel =>
       refine ⟨i + 1, 10 * x + (s[i].toNat - 48), by go_num, ?_, by omega, by omega, ?_, ?_⟩
       ·congr 1; omega
       ·have := hlt9.out; rw [hcs.out, ← hxd.out] at this; exact this
       ·rw [Hid, hcs.out, ← hxd.out]
      case measure => simp [intOf] <;> omega
     ·obtain rfl : i = e := by omega
      have HN := hid (hR.out.next HD.out)
      rw [hL, ← HS0.out, ← hxd.out] at HN
      go_wp2_with (at_builtin; refine wpList_append_own _ rfl _ _ 77 rfl w.heap.size 3 i0 (.int .i64 0) 1 8 Tryz.underlying77 hi hz0 hz1 hz2 rfl (by decide) _ l.length _ rfl (hO.out.alloc _) ⟨wr.heap.size, 0, none⟩ 1 1 [.int .i64 (x : Int)] rfl rfl (cell_one_new wr (.int .i64 (x : Int)) 3) (by simp [Value.oneCell']) (by unfold maxLen; omega) (by omega) (by have := hB.out.size; simp; omega) ?_; intro v' w3 hown3 hgrow3 _; have HO3 := hid hown3; have HG3 := hid hgrow3; clear hown3 hgrow3)
      obtain ⟨n1, n2⟩ := own_next hO.out hB.out HO3.out HG3.out
      have N1 := hid n1; have N2 := hid n2; clear n1 n2 HO3 HG3
      obtain ⟨a3, k3, rfl⟩ := owns_ex N1.out
      have hS := HS0.out
      go_wp2_with fail
      go_roundw
      case rel => exact ⟨l ++ [x], _, s0, rfl, by omega, by omega, by omega, by simp <;> omega, by simp <;> omega, by rw [hL]; exact HN, N1, N2⟩
      case measure => simp [intOf] <;> omega
theorem r1_Read (w : World) (s : ByteArray) (hd : allDig s.data.toList) (hs : s.size ≤ 1000000) :
 Calls Tryz.prog 73 #[.string s] w fun e w' => RetN .i64 (dv s.data.toList) e w' ∧ Below w.heap.size w w' := (r1_ReadF w s hd hs).mono fun e w' h => ⟨h.1.ret, h.2⟩
open Go.Lib (decDigits nDigits)
theorem r1_Write (w : World) (v : Value) (n : Nat) (h : IsN .i64 w v n) (hl : (limbs n).length ≤ 1000000) : Calls Tryz.prog 76 #[v] w fun e w' => e = .returned (numV n) ∧ Below w.heap.size w w' := by
 rcases Nat.eq_zero_or_pos n with rfl | h0
 ·exact r1_Write_zero w v h
 ·exact r1_Write_pos w v n h h0 hl
theorem r1_Read_num (w : World) (a : Nat) (h : nDigits a ≤ 9000) : Calls Tryz.prog 73 #[.string (numB a)] w fun e w' => RetN .i64 a e w' ∧ Below w.heap.size w w' := by
 have := r1_Read w (numB a) (by rw [numB_list]; exact allDig_dec a) (by rw [numB_size]; omega)
 rwa [numB_list, dv_dec] at this
theorem isN_one (w : World) : IsN .i64 (w.alloc (.cells #[.int .i64 1] 3)) (.slice (some ⟨w.heap.size, 0, none⟩) 1 1) 1 := by
 unfold IsN
 rw [limbs_one]
 exact Row.of_blk (b := w.heap.size) (n := 1) (c := 1) (cs := #[.int .i64 1]) (Blk.new w _ _) rfl (by unfold maxLen; omega) (fun i x hx => by simpa [ints] using hx) (Nat.le_refl _) (by unfold maxLen; omega)
end Go.Proofs.YtlimaehdmcnjaaaGreatDoor
namespace Go.Proofs.YtlimaehdmcnjaaaGreatDoor
open Go.RowKit
def Ret2N (k : IntKind) (n m : Nat) (e : Ending) (w' : World) : Prop := ∃ v, e = .returned (.tuple #[v, .int k (m : Int)]) ∧ IsN k w' v n
theorem r1_short (w : World) (v : Value) (a d : Nat) (ha : IsN .i64 w v a) (hd0 : 0 < d) (hd1 : d < 1000000000) (hla : (limbs a).length ≤ 1000000) :
 Calls Tryz.prog 151 #[v, .int .i64 d] w fun e w' => Ret2N .i64 (a / d) (a % d) e w' ∧ Below w.heap.size w w' := by
 obtain ⟨a1, c1, rfl, h1, h2, h3⟩ := ha.openI
 have H3 := hid h3; clear h3 ha
 obtain ⟨n, ea⟩ : ∃ n, (limbs a).length = n := ⟨_, rfl⟩
 rw [ea] at h1 hla ⊢
 have HA := hid ea
 clear ea
 have hmk := fun W => make_limbs n (by omega) W
 have hdz : ((d : Int) == 0) = false := by simp; omega
 go_enter Tryz.func151, Tryz.ntmps151
 go_wp2_with fail
 clear hmk
 go_loopw [7, 8, 9] (fun rr ii nn wr => ∃ (j r : Nat) (t : Int) (o : List Nat), rr = .int .i64 r ∧ ii = .int .i64 t ∧ t = (j : Int) - 1 ∧ j ≤ n ∧ Hid (SmallI a d j r o) ∧ Hid (Arr .i64 3 wr w.heap.size o) ∧ Hid (Below w.heap.size w wr)) (fun _ ii _ _ => (intOf ii + 1).toNat)
 case atStart => exact ⟨n, 0, _, _, rfl, rfl, rfl, Nat.le_refl _, by have := SmallI.start (a := a) hd0; rw [HA.out] at this; exact this, Arr.made w .i64 3 n, (Below.refl _ _).alloc (Nat.le_refl _) _⟩
 case round =>
  obtain ⟨j, r, t, o, rfl, rfl, ht, hj, hS, hO, hB⟩ := hrel
  have hsz : Hid (o.length = n) := by rw [Hid, hS.out.len, HA.out]
  cases j with
  | zero =>
   obtain rfl : t = -1 := by omega
   clear ht
   have hv := hid hS.out.done
   have hr := hid (show Row wr (.slice (some ⟨w.heap.size, 0, none⟩) n n) (ints .i64 o) from by
    have := hO.out.row (n := n) (c := n) (by rw [hsz.out]; exact Nat.le_refl _) (Nat.le_refl _) (by unfold maxLen; omega)
    rwa [List.take_of_length_le (by rw [hsz.out]; exact Nat.le_refl _)] at this)
   go_wp2_with (go_at_call 122; refine (r1_trim _ _ o hS.out.sm hr.out).mono ?_; rintro e w1 ⟨⟨v1, rfl, hv1⟩, rfl⟩)
   go_ret2
   exact ⟨⟨v1, ret_tup (by rw [hv.out.2]), by rw [← hv.out.1]; exact hv1⟩, hB.out⟩
  | succ j =>
   obtain rfl : t = (j : Int) := by omega
   clear ht
   obtain ⟨x, hx⟩ : ∃ x, (limbs a)[j]? = some x := ⟨_, List.getElem?_eq_getElem (by rw [HA.out]; omega)⟩
   obtain ⟨g, og, rfl, hg, hc⟩ := H3.out _ x hx
   have d1 := (hB.out.cell (p := ⟨g, og + j, none⟩) hg).trans hc
   obtain ⟨z, hz⟩ : ∃ z, o[j]? = some z := ⟨_, List.getElem?_eq_getElem (by rw [hsz.out]; omega)⟩
   have d3 := hO.out.cell hz
   have d4 := hO.out.free j
   have HN := hid (hS.out.next hx)
   have hxl := (sm_limbs a).get hx
   have hrl := hS.out.rd
   clear hx hc hz
   go_wp2_with fail
   go_roundw
   case rel =>
    have e1 : (((r : Int) * 1000000000 + x) / d) = (((r * 1000000000 + x) / d : Nat) : Int) := by rw [Int.natCast_ediv]; rfl
    have e2 : (((r : Int) * 1000000000 + x) % d) = (((r * 1000000000 + x) % d : Nat) : Int) := by rw [Int.natCast_emod]; rfl
    rw [e1]
    exact ⟨j, _, _, _, by rw [e2], rfl, by omega, by omega, HN, hO.out.set j _, below_set hB.out (Nat.le_refl _) _⟩
   case measure => simp [intOf] <;> omega
def RetArr (k : IntKind) (t : TypeId) (B n len : Nat) (e : Ending) (w' : World) : Prop := ∃ g o, e = .returned (.slice (some ⟨g, 0, none⟩) len len) ∧ B ≤ g ∧ Arr k t w' g o ∧ o.length = len ∧ Sm o ∧ val o = n
theorem r1_scaled (w : World) (v : Value) (a d : Nat) (ha : IsN .i64 w v a) (hd1 : d < 1000000000) (hla : (limbs a).length ≤ 1000000) :
 Calls Tryz.prog 152 #[v, .int .i64 d] w fun e w' => RetArr .i64 3 w.heap.size (a * d) ((limbs a).length + 1) e w' ∧ Below w.heap.size w w' := by
 obtain ⟨a1, c1, rfl, h1, h2, h3⟩ := ha.openI
 have H3 := hid h3; clear h3 ha
 obtain ⟨n, ea⟩ : ∃ n, (limbs a).length = n := ⟨_, rfl⟩
 rw [ea] at h1 hla ⊢
 have HA := hid ea
 clear ea
 have hmk : ∀ W : World, (Instr.makeSlice 77 (.int .i64 ((n : Int) + 1)) (.int .i64 ((n : Int) + 1))).run Tryz.prog W = .ok (.slice (some ⟨W.heap.size, 0, none⟩) (n + 1) (n + 1)) (W.alloc (.cells (madeCells #[.int .i64 0] (n + 1)) 3)) := fun W => by
  have := make_limbs (n + 1) (by omega) W
  rwa [Int.natCast_add] at this
 go_enter Tryz.func152, Tryz.ntmps152
 go_wp2_with fail
 clear hmk
 go_loopw [6, 7, 8] (fun cc ii nn wr => ∃ (i c : Nat) (o : List Nat), cc = .int .i64 c ∧ ii = .int .i64 i ∧ i ≤ n ∧ Hid (ScaleI a d i c o) ∧ Hid (Arr .i64 3 wr w.heap.size o) ∧ Hid (Below w.heap.size w wr)) (fun _ ii _ _ => n - (intOf ii).toNat)
 case atStart => exact ⟨0, 0, _, rfl, rfl, Nat.zero_le _, ScaleI.start a d, by rw [HA.out]; exact Arr.made w .i64 3 (n + 1), (Below.refl _ _).alloc (Nat.le_refl _) _⟩
 case round =>
  obtain ⟨i, c, o, rfl, rfl, hin, hS, hO, hB⟩ := hrel
  have hsz : Hid (o.length = n + 1) := by rw [Hid, hS.out.len, HA.out]
  by_cases hlt : i < n
  ·obtain ⟨x, hx⟩ : ∃ x, (limbs a)[i]? = some x := ⟨_, List.getElem?_eq_getElem (by rw [HA.out]; exact hlt)⟩
   obtain ⟨g, og, rfl, hg, hc⟩ := H3.out _ x hx
   have d1 := (hB.out.cell (p := ⟨g, og + i, none⟩) hg).trans hc
   obtain ⟨z, hz⟩ : ∃ z, o[i]? = some z := ⟨_, List.getElem?_eq_getElem (by rw [hsz.out]; omega)⟩
   have d3 := hO.out.cell hz
   have d4 := hO.out.free i
   have HN := hid (hS.out.next hd1 hx)
   have hb1 := mul_bound (old := 0) (by omega) ((sm_limbs a).get hx) hd1 hS.out.c1
   have hcl := hS.out.c1
   clear hx hc hz
   have HP := hid (show ((x : Int) * (d : Int)) = ((x * d : Nat) : Int) from (Int.natCast_mul x d).symm)
   obtain ⟨p, hp⟩ : ∃ p, x * d = p := ⟨_, rfl⟩
   rw [hp] at hb1 HN HP
   have hp2 := hb1.2; clear hb1 hp
   have e5 : IntKind.i64.wrap ((x : Int) * (d : Int)) = (p : Int) := by rw [HP.out]; exact IntWalk.i64_in _ (by omega)
   have e5' : wrap64 ((x : Int) * (d : Int)) = (p : Int) := by rw [HP.out]; exact IntWalk.wrap64_in _ (by omega)
   go_wp2_with fail
   clear e5 e5'
   go_roundw
   case rel =>
    have hz : (((p : Int) + c) % 1000000000) = (((p + c) % 1000000000 : Nat) : Int) := by omega
    rw [hz]
    exact ⟨i + 1, (p + c) / 1000000000, _, by go_num, by go_num, by omega, HN, hO.out.set i _, below_set hB.out (Nat.le_refl _) _⟩
   case measure => simp [intOf] <;> omega
  ·obtain rfl : i = n := by omega
   obtain ⟨z, hz⟩ : ∃ z, o[i]? = some z := ⟨_, List.getElem?_eq_getElem (by rw [hsz.out]; omega)⟩
   have d3 := hO.out.cell hz
   have d4 := hO.out.free i
   clear hz
   have hD := hid (show val (o.set i c) = a * d ∧ Sm (o.set i c) ∧ (o.set i c).length = i + 1 from by have := hS.out; rw [← HA.out] at this ⊢; exact this.done)
   go_wp2_with fail
   go_ret
   exact ⟨⟨w.heap.size, _, rfl, Nat.le_refl _, hO.out.set i c, hD.out.2.2, hD.out.2.1, hD.out.1⟩, below_set hB.out (Nat.le_refl _) _⟩
def StepOut (us vs : List Nat) (gu j n : Nat) (w : World) (e : Ending) (w' : World) : Prop :=
 e = .returned (.int .i64 ((val ((us.drop j).take (n + 1)) / val vs : Nat) : Int)) ∧ ∃ o, WinOut us j n (val ((us.drop j).take (n + 1)) % val vs) o ∧ Arr .i64 3 w' gu o ∧ w.grownBy w' (some gu)
theorem r1_step (w : World) (gu j cu : Nat) (us : List Nat) (gv ov cv : Nat) (vs : List Nat) (n : Nat) (hS : StepIn us vs j n) (hU : Arr .i64 3 w gu us) (hV : Row w (.slice (some ⟨gv, ov, none⟩) n cv) (ints .i64 vs)) (hne : gv ≠ gu) :
 Calls Tryz.prog 153 #[.slice (some ⟨gu, j, none⟩) (n + 1) cu, .slice (some ⟨gv, ov, none⟩) n cv] w fun e w' => StepOut us vs gu j n w e w' := by
 have n2 := hS.n2; have nm := hS.nm; have lu := hS.lu; have um := hS.um
 have cv' : ∀ i, i < n → w.cell? ⟨gv, ov + i, none⟩ = some (.int .i64 (vs.getD i 0 : Nat)) := fun i hi => by
  obtain ⟨g, o, e, hg, hc⟩ := hV.at (ints_get (getD_some (l := vs) (i := i) (by rw [hS.lv]; exact hi)))
  simp at e
  obtain ⟨rfl, rfl⟩ := e
  exact hc
 have cu' : ∀ i, i ≤ n → w.cell? ⟨gu, j + i, none⟩ = some (.int .i64 (us.getD (j + i) 0 : Nat)) := fun i hi => hU.cell (getD_some (by omega))
 have hE := hid hS.est
 have a0 := cu' n (Nat.le_refl _)
 have a1 := cu' (n - 1) (by omega)
 have a2 := cu' (n - 2) (by omega)
 have b1 := cv' (n - 1) (by omega)
 have b2 := cv' (n - 2) (by omega)
 have CV := hid cv'; have CU := hid cu'; have HS := hid hS; have HU := hid hU
 clear cv' cu' hS hU hV
 obtain ⟨u0, hu0⟩ : ∃ x, us.getD (j + n) 0 = x := ⟨_, rfl⟩
 obtain ⟨u1, hu1⟩ : ∃ x, us.getD (j + (n - 1)) 0 = x := ⟨_, rfl⟩
 obtain ⟨u2, hu2⟩ : ∃ x, us.getD (j + (n - 2)) 0 = x := ⟨_, rfl⟩
 obtain ⟨v1, hv1⟩ : ∃ x, vs.getD (n - 1) 0 = x := ⟨_, rfl⟩
 obtain ⟨v2, hv2⟩ : ∃ x, vs.getD (n - 2) 0 = x := ⟨_, rfl⟩
 rw [hu0, hu1, hu2, hv1, hv2] at hE
 rw [hu0] at a0; rw [hu1] at a1; rw [hu2] at a2; rw [hv1] at b1; rw [hv2] at b2
 have HU0 := hid hu0; clear hu0 hu1 hu2 hv1 hv2
 have l0 := hE.out.b0; have l1 := hE.out.b1; have l2 := hE.out.b2; have l3 := hE.out.c1; have l4 := hE.out.c2; have l5 := hE.out.v0
 have dz : ((v1 : Int) == 0) = false := by simp; omega
 have f1 : (0 : Int) ≤ (n : Int) - 1 := by omega
 have f2 : (n : Int) - 1 < (n : Int) + 1 := by omega
 have f3 : (n : Int) - 1 < (n : Int) := by omega
 have f4 : (0 : Int) ≤ (n : Int) - 2 := by omega
 have f5 : (n : Int) - 2 < (n : Int) + 1 := by omega
 have f6 : (n : Int) - 2 < (n : Int) := by omega
 have f7 : (0 : Int) ≤ (n : Int) := by omega
 have f8 : (n : Int) < (n : Int) + 1 := by omega
 have e1 : IntKind.i64.wrap ((n : Int) - 1) = (n : Int) - 1 := IntWalk.i64_in _ (by omega)
 have e2 : IntKind.i64.wrap ((n : Int) - 2) = (n : Int) - 2 := IntWalk.i64_in _ (by omega)
 have e3 : ((n : Int) - 1).toNat = n - 1 := by omega
 have e4 : ((n : Int) - 2).toNat = n - 2 := by omega
 have e5 : IntKind.i64.wrap ((u0 : Int) * 1000000000) = (u0 : Int) * 1000000000 := IntWalk.i64_in _ (by omega)
 have e6 : IntKind.i64.wrap ((u0 : Int) * 1000000000 + u1) = (u0 : Int) * 1000000000 + u1 := IntWalk.i64_in _ (by omega)
 go_enter Tryz.func153, Tryz.ntmps153
 go_wp2_with fail
 go_quiet (fail)
 clear e5 e6
 go_wp2_with fail
 go_quiet (fail)
 go_upto_block 0 with (fail)
 rename_i nq1 nq2
 obtain ⟨V, hV⟩ : ∃ V, val vs = V := ⟨_, rfl⟩
 obtain ⟨U, hU⟩ : ∃ U, val ((us.drop j).take (n + 1)) = U := ⟨_, rfl⟩
 rw [hU, hV] at hE
 have HVU := hid (And.intro hU hV); clear hU hV
 go_cut [7] (fun gg wx => ∃ (G q : Nat), gg = .int .i64 G ∧ wx = w.drewN q ∧ G < 1000000000 ∧ Hid (U / V ≤ G ∧ G * V < U + V))
 case first =>
  go_wp2_with fail
  go_loopw [7, 8] (fun gg rr wr => ∃ G R q : Nat, gg = .int .i64 G ∧ rr = .int .i64 R ∧ wr = w.drewN q ∧ Hid (EstI U V u0 u1 v1 G R)) (fun gg _ _ => (intOf gg).toNat)
  case atStart =>
   exact ⟨_, _, _, by rw [Int.natCast_ediv]; rfl, by rw [Int.natCast_emod]; rfl, by rw [World.drewN_drewN], EstI.start hE.out⟩
  case round =>
   obtain ⟨G, R, q, rfl, rfl, rfl, hI⟩ := hrel
   have g2 := hI.out.g2; have r2 := hI.out.r2
   by_cases hR : R < 1000000000
   ·have q1 : decide ((R : Int) < 1000000000) = true := by simp; omega
    by_cases hG : 1000000000 ≤ G
    ·have q2 : decide ((1000000000 : Int) ≤ (G : Int)) = true := by simp; omega
     have HN := hid (hI.out.big hE.out hR hG)
     go_wp2_with fail
     go_big_quiet (fail)
     clear q1 q2
     go_wp2_with fail
     go_quiet (fail)
     go_wp2_with fail
     go_roundw
     case rel => exact ⟨G - 1, R + v1, _, by go_num, by go_num, by rw [World.drewN_drewN, World.drewN_drewN], HN⟩
     case measure => simp [intOf] <;> omega
    ·have q2 : decide ((1000000000 : Int) ≤ (G : Int)) = false := by simp; omega
     obtain ⟨p, hp⟩ : ∃ p, G * v2 = p := ⟨_, rfl⟩
     have hpb : p ≤ 999999999 * 999999999 := by rw [← hp]; exact Nat.mul_le_mul (by omega) (by omega)
     have HPI := hid (show ((G : Int) * (v2 : Int)) = (p : Int) from by rw [← Int.natCast_mul, hp])
     by_cases hT : R * 1000000000 + u2 < p
     ·have q3 : decide ((R : Int) * 1000000000 + u2 < (p : Int)) = true := by simp; omega
      have HN := hid (hI.out.less hE.out hR (by rw [hp]; exact hT))
      have hg0 := HN.out.2
      clear hp hT
      obtain ⟨x5, x6, x7⟩ : IntKind.i64.wrap ((G : Int) * (v2 : Int)) = (p : Int) ∧ IntKind.i64.wrap ((R : Int) * 1000000000) = (R : Int) * 1000000000 ∧ IntKind.i64.wrap ((R : Int) * 1000000000 + u2) = (R : Int) * 1000000000 + u2 := by
       refine ⟨by rw [HPI.out]; exact IntWalk.i64_in _ (by omega), IntWalk.i64_in _ (by omega), IntWalk.i64_in _ (by omega)⟩
      go_wp2_with fail
      go_big_quiet (fail)
      clear q1 q2 q3 x5 x6 x7
      go_wp2_with fail
      go_quiet (fail)
      go_wp2_with fail
      go_roundw
      case rel => exact ⟨G - 1, R + v1, _, by go_num, by go_num, by rw [World.drewN_drewN, World.drewN_drewN], HN.out.1⟩
      case measure => simp [intOf] <;> omega
     ·have q3 : decide ((R : Int) * 1000000000 + u2 < (p : Int)) = false := by simp; omega
      have HD := hid (hI.out.done hE.out (.inr ⟨by omega, by rw [hp]; omega⟩))
      have HQ := hid hI.out.q
      clear hp hT
      obtain ⟨x5, x6, x7⟩ : IntKind.i64.wrap ((G : Int) * (v2 : Int)) = (p : Int) ∧ IntKind.i64.wrap ((R : Int) * 1000000000) = (R : Int) * 1000000000 ∧ IntKind.i64.wrap ((R : Int) * 1000000000 + u2) = (R : Int) * 1000000000 + u2 := by
       refine ⟨by rw [HPI.out]; exact IntWalk.i64_in _ (by omega), IntWalk.i64_in _ (by omega), IntWalk.i64_in _ (by omega)⟩
      go_wp2_with fail
      go_big_quiet (fail)
      clear q1 q2 q3 x5 x6 x7
      go_wp2_with fail
      go_meet
      exact ⟨G, _, rfl, by rw [World.drewN_drewN], HD.out.1, HQ.out, HD.out.2⟩
   ·have q1 : decide ((R : Int) < 1000000000) = false := by simp; omega
    have HD := hid (hI.out.done hE.out (.inl (by omega)))
    have HQ := hid hI.out.q
    go_wp2_with fail
    go_big_quiet (fail)
    clear q1
    go_wp2_with fail
    go_meet
    exact ⟨G, _, rfl, by rw [World.drewN_drewN], HD.out.1, HQ.out, HD.out.2⟩
 case rest =>
  obtain ⟨G, q, rfl, rfl, hG, hQ⟩ := hcut
  have hE1 := hE
  clear a0 a1 a2 b1 b2 dz f1 f2 f3 f4 f5 f6 f7 f8 e1 e2 e3 e4 hE l0 l1 l2 l3 l4 l5
  go_wp2_with fail
  go_loopw [9, 10, 11, 12] (fun bb ii tt xx wr => ∃ (i c : Nat) (o : List Nat), bb = .int .i64 c ∧ ii = .int .i64 i ∧ i ≤ n ∧ Hid (MsubI us vs j n G i c o) ∧ Hid (Arr .i64 3 wr gu o) ∧ Hid (w.grownBy wr (some gu))) (fun _ ii _ _ _ => n - (intOf ii).toNat)
  case atStart => exact ⟨0, 0, us, rfl, rfl, Nat.zero_le _, MsubI.start HS.out.su, HU.out.drewN q, gb_drewN (World.grownBy.refl w _) q⟩
  case round =>
   obtain ⟨i, c, o, rfl, rfl, hin, hM, hO, hB⟩ := hrel
   have hol := hid hM.out.len
   have hcG := hM.out.c1
   by_cases hlt : i < n
   ·have d1 := hO.out.cell (getD_some (l := o) (i := j + i) (by rw [hol.out]; omega))
    have d4 := hO.out.free (j + i)
    have d2 := gb_cell hB.out (CV.out i hlt) hne
    have hvl := HS.out.sv.getD i
    have hul := HS.out.su.getD (j + i)
    rw [getD_drop_eq hM.out.hi] at d1
    obtain ⟨T, M, z, c', hT, hM1, hz, hc', z1, z2, z3, z4, z5, z6, z7, z8⟩ := ref_msub hul hcG hG hvl
    have HN := hid (hM.out.next (by omega) lu z1 z2 z3)
    obtain ⟨ui, hui⟩ : ∃ x, us.getD (j + i) 0 = x := ⟨_, rfl⟩
    obtain ⟨vi, hvi⟩ : ∃ x, vs.getD i 0 = x := ⟨_, rfl⟩
    rw [hui] at d1 hul hT; rw [hvi] at d2 hvl hT
    clear hui hvi z3
    obtain ⟨p, hp⟩ : ∃ p, G * vi = p := ⟨_, rfl⟩
    have hpb : p ≤ 999999999 * 999999999 := by rw [← hp]; exact Nat.mul_le_mul (by omega) (by omega)
    have HPI := hid (show ((G : Int) * (vi : Int)) = (p : Int) from by rw [← Int.natCast_mul, hp])
    rw [hp] at hT
    have HT := hid hT; have HM1 := hid hM1; have HZ := hid hz; have HC := hid hc'
    clear hp hT hM1 hz hc'
    have f1 : (0 : Int) ≤ (i : Int) := by omega
    have f2 : (i : Int) < (n : Int) := by omega
    have f3 : (i : Int) < (n : Int) + 1 := by omega
    obtain ⟨x5, x6, x7⟩ : IntKind.i64.wrap ((G : Int) * (vi : Int)) = (p : Int) ∧ IntKind.i64.wrap ((ui : Int) - c) = (ui : Int) - c ∧ IntKind.i64.wrap ((ui : Int) - c - p) = T := by
     refine ⟨by rw [HPI.out]; exact IntWalk.i64_in _ (by omega), IntWalk.i64_in _ (by omega), by rw [HT.out]; exact IntWalk.i64_in _ (by omega)⟩
    go_wp2_with fail
    go_quiet (fail)
    clear x5 x6 x7
    have y1 := HM1.out; have y2 := HZ.out; have y3 := HC.out
    go_wp2_with fail
    clear y1 y2 y3
    go_roundw
    case rel => exact ⟨i + 1, c', _, by rw [HC.out], by go_num, by omega, HN, (hO.out.drewN _).set (j + i) z, gb_set (gb_drewN hB.out _) _ _⟩
    case measure => simp [intOf] <;> omega
   ·obtain rfl : i = n := by omega
    have hg0 := getD_drop_eq hM.out.hi
    have d1 := hO.out.cell (getD_some (l := o) (i := j + i) (by rw [hol.out]; omega))
    have d4 := hO.out.free (j + i)
    rw [hg0, HU0.out] at d1
    have hV0 := hE1.out.pos
    have l0 := hE1.out.b0
    clear hg0
    by_cases hc : c ≤ u0
    ·obtain ⟨r1, r2, r3⟩ := hM.out.fits lu HS.out.lv HS.out.sv HVU.out.1 HVU.out.2 HU0.out hQ.out.1 hV0 hc
     have R1 := hid r1; have R3 := hid r3
     subst r2
     clear r1 r3 hc
     go_wp2_with fail
     refine wp_loop_rounds 1 ?_
     rw [rounds_succ]
     go_wp2_with fail
     go_ret
     refine ⟨ret_int (by rw [HVU.out.1, HVU.out.2, ← R1.out]), _, by rw [HVU.out.1, HVU.out.2]; exact R3.out, hO.out.set (j + i) 0, gb_set hB.out _ _⟩
    ·obtain ⟨hc1, hadd⟩ := hM.out.lacks lu HS.out.lv HS.out.sv HVU.out.1 HVU.out.2 HU0.out hQ.out.1 hQ.out.2 hV0 (by omega)
     have HADD := hid hadd
     have hsub : ((u0 : Int) - (c : Int)) = -1 := by omega
     have hcb : (c : Int) ≤ 1000000000 := by omega
     have HN := hid (hO.out.setN (j + i) (-1))
     have HG := hid (gb_set hB.out (j + i) (.int .i64 (-1)))
     clear hadd hc hc1
     go_wp2_with fail
     refine wp_loop_rounds 2 ?_
     rw [rounds_succ]
     clear hsub
     obtain ⟨wx, hwx⟩ : ∃ wx, wr.setCell ⟨gu, j + i, none⟩ (.int .i64 (-1)) = wx := ⟨_, rfl⟩
     rw [hwx] at HN HG ⊢
     clear hwx d1 d4
     have k1 := HN.out.self (m := j + i) (by rw [hol.out]; omega)
     go_wp2_with fail
     go_loopw [13, 14, 15] (fun cc ii tt wq => ∃ (y k : Nat) (p : List Nat), cc = .int .i64 k ∧ ii = .int .i64 y ∧ y ≤ i ∧ Hid (AddI o vs j y k p) ∧ Hid (ArrN .i64 3 wq gu p (j + i) (-1)) ∧ Hid (w.grownBy wq (some gu))) (fun _ ii _ _ => i - (intOf ii).toNat)
     case atStart => exact ⟨0, 0, o, rfl, rfl, Nat.zero_le _, AddI.start hM.out.sm, HN, HG⟩
     case round =>
      obtain ⟨y, k, p, rfl, rfl, hyi, hA, hP, hB2⟩ := hrel
      have hpl := hid (show p.length = us.length from by rw [hA.out.len, hol.out])
      by_cases hlt2 : y < i
      ·have d1 := hP.out.cell (i := j + y) (by omega) (getD_some (l := p) (i := j + y) (by rw [hpl.out]; omega))
       have d4 := hP.out.free (j + y)
       have d2 := gb_cell hB2.out (CV.out y hlt2) hne
       rw [getD_drop_eq hA.out.hi] at d1
       have HN2 := hid (hA.out.next hM.out.sm HS.out.sv (by rw [hol.out]; omega))
       have hvl := HS.out.sv.getD y
       have hul := hM.out.sm.getD (j + y)
       have hk1 := hA.out.k1
       obtain ⟨ui, hui⟩ : ∃ x, o.getD (j + y) 0 = x := ⟨_, rfl⟩
       obtain ⟨vi, hvi⟩ : ∃ x, vs.getD y 0 = x := ⟨_, rfl⟩
       rw [hui] at d1 hul; rw [hvi] at d2 hvl; rw [hui, hvi] at HN2
       clear hui hvi
       have f1 : (0 : Int) ≤ (y : Int) := by omega
       have f2 : (y : Int) < (i : Int) := by omega
       have f3 : (y : Int) < (i : Int) + 1 := by omega
       have hkI : (k : Int) ≤ 1 := by omega
       obtain ⟨x5, x6⟩ : IntKind.i64.wrap ((ui : Int) + vi) = (ui : Int) + vi ∧ IntKind.i64.wrap ((ui : Int) + vi + k) = (ui : Int) + vi + k := by
        refine ⟨IntWalk.i64_in _ (by omega), IntWalk.i64_in _ (by omega)⟩
       go_wp2_with fail
       go_quiet (fail)
       clear x5 x6
       go_wp2_with fail
       go_roundw
       case rel =>
        have hz : (((ui : Int) + vi + k) % 1000000000) = (((ui + vi + k) % 1000000000 : Nat) : Int) := by omega
        rw [hz]
        exact ⟨y + 1, _, _, by go_num, by go_num, by omega, HN2, (hP.out.drewN _).set (by omega) _, gb_set (gb_drewN hB2.out _) _ _⟩
       case measure => simp [intOf] <;> omega
      ·obtain rfl : y = i := by omega
       obtain ⟨r0, r1, r2, r3⟩ := HADD.out k p hA.out
       subst r0
       have R1 := hid r1; have R3 := hid r3
       have k1 := hP.out.self (m := j + y) (by rw [hpl.out]; omega)
       have k2 := hP.out.free (j + y)
       clear r1 r3
       go_wp2_with fail
       rw [rounds_succ]
       go_wp2_with fail
       go_ret
       refine ⟨ret_int (by rw [HVU.out.1, HVU.out.2, R1.out]; omega), _, by rw [HVU.out.1, HVU.out.2]; exact R3.out, hP.out.back 0, gb_set hB2.out _ _⟩
theorem divide_less (w : World) (v u : Value) (a b : Nat) (ha : IsN .i64 w v a) (hb : IsN .i64 w u b) (hlt : a < b) :
 Calls Tryz.prog 109 #[v, u] w fun e w' => RetNN .i64 (a / b) (a % b) e w' ∧ Below w.heap.size w w' := by
 have HA := hid ha; have HB := hid hb; have HL := hid (ordN_lt hlt); have HQ := hid (Nat.div_eq_of_lt hlt); have HR := hid (Nat.mod_eq_of_lt hlt)
 obtain ⟨a1, c1, rfl, _⟩ := ha.openI
 obtain ⟨a2, c2, rfl, _⟩ := hb.openI
 clear ha hb hlt
 go_enter Tryz.func109, Tryz.ntmps109
 go_wp2_with fail
 refine (r1_Order _ _ _ a b HA.out HB.out).mono ?_; rintro e w1 ⟨rfl, hb1⟩
 have B1 := hid hb1; clear hb1
 rw [HL.out]
 go_wp2_with fail
 go_ret2
 exact ⟨⟨_, _, rfl, by rw [HQ.out]; exact IsN.zero _ _, by rw [HR.out]; exact HA.out.call B1.out⟩, B1.out⟩
theorem divide_one (w : World) (v u : Value) (a b : Nat) (ha : IsN .i64 w v a) (hb : IsN .i64 w u b) (hle : b ≤ a) (h0 : 0 < b) (h1 : b < 1000000000) (hla : (limbs a).length ≤ 1000000) :
 Calls Tryz.prog 109 #[v, u] w fun e w' => RetNN .i64 (a / b) (a % b) e w' ∧ Below w.heap.size w w' := by
 have HA := hid ha; have HB := hid hb
 have hord : ordN a b = 0 ∨ ordN a b = 1 := by
  unfold ordN; split
  ·omega
  ·split <;> simp
 obtain ⟨a1, c1, rfl, h1', _⟩ := ha.openI
 obtain ⟨a2, c2, rfl, h2', h3', h4'⟩ := hb.openI
 have hl1 : limbs b = [b] := limbs_small h0 h1
 obtain ⟨g, o, rfl, hg, hc⟩ := h4' 0 b (by rw [hl1]; rfl)
 rw [Nat.add_zero] at hc
 have HC := hid hc
 have hlen : (limbs b).length = 1 := by rw [hl1]; rfl
 rw [hlen] at HB h2' ⊢
 clear ha hb hc h4' hl1 hlen
 go_enter Tryz.func109, Tryz.ntmps109
 go_wp2_with fail
 refine (r1_Order _ _ _ a b HA.out HB.out).mono ?_; rintro e w1 ⟨rfl, hb1⟩
 have d1 := (hb1.cell (p := ⟨g, o, none⟩) hg).trans HC.out
 have B1 := hid hb1; clear hb1
 obtain ⟨t, ht⟩ : ∃ t, ordN a b = t := ⟨_, rfl⟩
 rw [ht] at hord ⊢
 have q0 : decide (t < 0) = false := by simp; omega
 clear ht hord
 go_wp2_with fail
 refine (r1_short _ _ a b (HA.out.call B1.out) h0 h1 hla).mono ?_; rintro e w2 ⟨⟨v2, rfl, hv2⟩, hb2⟩
 have B2 := hid hb2; have V2 := hid hv2; clear hb2 hv2
 have hrb : a % b < 1000000000 := Nat.lt_trans (Nat.mod_lt a h0) h1
 go_wp2_with fail
 refine (r1_trim _ _ [a % b] (Sm.cons hrb Sm.nil) ?_).mono ?_
 ·exact Row.of_blk (b := w2.heap.size) (n := 1) (c := 1) (cs := #[.int .i64 ((a % b : Nat) : Int)]) (Blk.new w2 _ _) rfl (by unfold maxLen; omega) (fun i x hx => by simpa [ints] using hx) (Nat.le_refl _) (by unfold maxLen; omega)
 ·rintro e w3 ⟨⟨v3, rfl, hv3⟩, rfl⟩
  have V3 := hid hv3; clear hv3
  go_wp2_with fail
  go_ret2
  have hb3 : Below w2.heap.size w2 (w2.alloc (.cells #[.int .i64 ((a % b : Nat) : Int)] 3)) := (Below.refl _ _).alloc (Nat.le_refl _) _
  refine ⟨⟨_, _, rfl, V2.out.call hb3, ?_⟩, bnext (bnext B1.out B2.out) hb3⟩
  have := V3.out
  rwa [show val [a % b] = a % b by simp [val_cons]] at this
theorem divide_many (w : World) (v u : Value) (a b m : Nat) (ha : IsN .i64 w v a) (hb : IsN .i64 w u b) (hle : b ≤ a) (hn : (limbs b).length = m) (hm2 : 2 ≤ m) (hla : (limbs a).length ≤ 1000000) :
 Calls Tryz.prog 109 #[v, u] w fun e w' => RetNN .i64 (a / b) (a % b) e w' ∧ Below w.heap.size w w' := by
 have HA := hid ha; have HB := hid hb
 have hord : ordN a b = 0 ∨ ordN a b = 1 := by
  unfold ordN; split
  ·omega
  ·split <;> simp
 have hmn := limbs_length_mono hle
 obtain ⟨a1, c1, rfl, h1', _⟩ := ha.openI
 obtain ⟨a2, c2, rfl, h2', h3', h4'⟩ := hb.openI
 obtain ⟨x, hx⟩ : ∃ x, (limbs b)[m - 1]? = some x := ⟨_, List.getElem?_eq_getElem (by omega)⟩
 obtain ⟨g, o, rfl, hg, hc⟩ := h4' (m - 1) x hx
 have HC := hid hc
 have hn1 : (limbs b).length = (m - 1) + 1 := by omega
 obtain ⟨s1, s2, s3⟩ := scale_len hn1 hx
 obtain ⟨t1, t2, _⟩ := top_limb hn1 hx
 obtain ⟨d, hd⟩ : ∃ d, 1000000000 / (x + 1) = d := ⟨_, rfl⟩
 rw [hd] at s1 s2 s3
 have HS := hid (show (limbs (b * d)).length = m by omega)
 have hdI := hid (show ((1000000000 : Int) / ((x : Int) + 1)) = (d : Int) from by rw [← hd]; rfl)
 rw [hn] at h2' hmn ⊢
 obtain ⟨L, hL⟩ : ∃ L, (limbs a).length = L := ⟨_, rfl⟩
 rw [hL] at hmn h1' ⊢
 have hla' : L ≤ 1000000 := by omega
 have HL := hid hL; have HN := hid hn; have HLA := hid hla; have HLE := hid hle
 rw [hL] at HA; rw [hn] at HB
 obtain ⟨K, hK⟩ : ∃ K, K = L + 1 - m := ⟨_, rfl⟩
 have hKI := hid (show ((L : Int) + 1 - (m : Int)) = (K : Int) by omega)
 have hKL : K + m = L + 1 := by omega
 have hmk := hid (fun W => make_limbs K (by omega) W)
 clear ha hb hc h4' hx hd s1 hL hn hla hle hn1 hK
 go_enter Tryz.func109, Tryz.ntmps109
 go_wp2_with fail
 refine (r1_Order _ _ _ a b HA.out HB.out).mono ?_; rintro e w1 ⟨rfl, hb1⟩
 have d1 := (hb1.cell (p := ⟨g, o + (m - 1), none⟩) hg).trans HC.out
 have B1 := hid hb1; clear hb1
 obtain ⟨t, ht⟩ : ∃ t, ordN a b = t := ⟨_, rfl⟩
 rw [ht] at hord ⊢
 have q0 : decide (t < 0) = false := by simp; omega
 clear ht hord
 go_wp2_with fail
 rw [hdI.out]
 refine (r1_scaled _ _ a d (HA.out.call B1.out) s3 HLA.out).mono ?_; rintro e w2 ⟨⟨gu, ou, rfl, hgu, hAu, lu, su, vu⟩, hb2⟩
 have B2 := hid (bnext B1.out hb2); have AU := hid hAu; have LU := hid lu; have SU := hid su; have VU := hid vu
 have hul := hAu.lt
 rw [HL.out] at LU ⊢
 clear hAu lu su vu d1
 go_wp2_with fail
 refine (r1_scaled _ _ b d (HB.out.call B2.out) s3 (by rw [HN.out]; omega)).mono ?_; rintro e w3 ⟨⟨gv, ov, rfl, hgv, hAv, lv, sv, vv⟩, hb3⟩
 have B3 := hid (bnext B2.out hb3); have AU3 := hid (AU.out.call hb3)
 have hne : gv ≠ gu := by omega
 have LV := hid lv; have VV := hid vv; have SV := hid sv
 clear lv vv sv
 go_wp2_with fail
 rw [← LV.out]
 refine (r1_trim_at _ _ _ ov SV.out (by have := hAv.row (n := ov.length) (c := ov.length) (Nat.le_refl _) (Nat.le_refl _) (by rw [LV.out, HN.out]; unfold maxLen; omega); rwa [List.take_of_length_le (Nat.le_refl _)] at this)).mono ?_
 rintro e w4 ⟨⟨m', rfl, hm'⟩, rfl⟩
 rw [VV.out] at hm'
 have hmm : m' = m := by have := hm'.len.1; rw [ints_length, HS.out] at this; exact this
 subst hmm
 have RV := hid hm'
 have hvl := hAv.lt
 clear hAv hm' AU
 have y1 := hKI.out; have y2 := hmk.out
 go_wp2_with fail
 clear y1 y2
 have hV := hid (val_limbs (b * d))
 have D0 := hid (show DivI (a * d) (b * d) m' (L + 1) K ou (List.replicate K 0) from by
  have h1 : 1000000000 ^ (m' - 1) ≤ b := limbs_lt_length.1 (by rw [HN.out]; omega)
  have h2 : b * d ≤ 1000000000 ^ m' := Nat.le_of_lt (limbs_length_le.1 (by rw [HS.out]; exact Nat.le_refl _))
  have h3 : a < 1000000000 ^ L := limbs_length_le.1 (by rw [HL.out]; exact Nat.le_refl _)
  have := DivI.start (U := a * d) (V := b * d) (n := m') h2 SU.out LU.out (by omega) VU.out (scaled_top LU.out VU.out h3 (by omega) (by omega) h1 s2)
  rwa [show L + 1 - m' = K by omega] at this)
 go_loopw [13] (fun jj wr => ∃ (k : Nat) (t : Int) (o Q : List Nat), jj = .int .i64 t ∧ t = (k : Int) - 1 ∧ k ≤ K ∧ Hid (DivI (a * d) (b * d) m' (L + 1) k o Q) ∧ Hid (Arr .i64 3 wr gu o) ∧ Hid (Arr .i64 3 wr w3.heap.size Q) ∧ Hid (Row wr (.slice (some ⟨gv, 0, none⟩) m' ov.length) (ints .i64 (limbs (b * d)))) ∧ Hid (Below w.heap.size w wr)) (fun jj _ => (intOf jj + 1).toNat)
 case atStart =>
  have ha : Below w3.heap.size w3 (w3.alloc (.cells (madeCells #[.int .i64 0] K) 3)) := (Below.refl _ _).alloc (Nat.le_refl _) _
  exact ⟨K, _, ou, _, rfl, rfl, Nat.le_refl _, D0, AU3.out.call ha, Arr.made w3 .i64 3 K, RV.out.call ha, bnext B3.out ha⟩
 case round =>
  obtain ⟨k, t, o2, Q, rfl, ht, hk, hD, hU, hQ, hR, hB⟩ := hrel
  have hol := hid hD.out.lo
  have hql := hid (show Q.length = K from by rw [hD.out.lq]; omega)
  cases k with
  | zero =>
   obtain rfl : t = -1 := by omega
   clear ht
   obtain ⟨r1, r2, r3⟩ := hD.out.done (by omega)
   have hfin := hid (div_end (a := a) (b := b) s2 r1 r2)
   have R3 := hid r3
   have hlen : (limbs (val (o2.take m'))).length ≤ 1000000 := by
    rw [r3]
    have := limbs_length_mono (Nat.le_of_lt r2)
    rw [HS.out] at this
    omega
   clear r1 r2 r3
   go_wp2_with fail
   refine (r1_trim _ _ (o2.take m') (hD.out.so.take _) (hU.out.row (by rw [hol.out]; omega) (by omega) (by unfold maxLen; omega))).mono ?_
   rintro e w5 ⟨⟨v5, rfl, hv5⟩, rfl⟩
   go_wp2_with fail
   refine (r1_short _ v5 _ d hv5 s2 s3 hlen).mono ?_
   rintro e w6 ⟨⟨v6, rfl, hv6⟩, hb6⟩
   have V6 := hid hv6; have B6 := hid hb6; have Q6 := hid (hQ.out.call hb6)
   clear hv5 hv6 hb6
   go_wp2_with fail
   refine (r1_trim _ _ Q hD.out.sq (by have := Q6.out.row (n := K) (c := K) (by rw [hql.out]; exact Nat.le_refl _) (Nat.le_refl _) (by unfold maxLen; omega); rwa [List.take_of_length_le (by rw [hql.out]; exact Nat.le_refl _)] at this)).mono ?_
   rintro e w7 ⟨⟨v7, rfl, hv7⟩, rfl⟩
   go_wp2_with fail
   go_ret2
   refine ⟨⟨v7, v6, rfl, by rw [← hfin.out.1]; exact hv7, ?_⟩, bnext hB.out B6.out⟩
   have := V6.out
   rwa [R3.out, hfin.out.2] at this
  | succ j =>
   obtain rfl : t = (j : Int) := by omega
   clear ht
   have hS := hid (show StepIn o2 (limbs (b * d)) j m' from ⟨hm2, by omega, HS.out, by rw [hol.out]; omega, by rw [hol.out]; omega, hD.out.so, sm_limbs _, limbs_top (n := m' - 1) (by rw [HS.out]; omega), by rw [hV.out]; exact hD.out.win (by omega)⟩)
   obtain ⟨z, hz⟩ : ∃ z, Q[j]? = some z := ⟨_, List.getElem?_eq_getElem (by rw [hql.out]; omega)⟩
   have hgq : w3.heap.size ≠ gu := by omega
   have hgw : w.heap.size ≤ gu := Nat.le_trans B1.out.size hgu
   have hqw : w.heap.size ≤ w3.heap.size := B3.out.size
   go_wp2_with fail
   rw [show j + m' + 1 - j = m' + 1 by omega]
   refine (r1_step _ gu j _ o2 gv 0 _ (limbs (b * d)) m' hS.out hU.out hR.out hne).mono ?_
   rintro e w5 ⟨he, o5, hw5, hA5, hg5⟩
   rw [hV.out] at he hw5
   have HN5 := hid (hD.out.next (by omega) hw5)
   obtain ⟨qv, hqv⟩ : ∃ q, val ((o2.drop j).take (m' + 1)) / (b * d) = q := ⟨_, rfl⟩
   rw [hqv] at he HN5
   subst he
   have Q5 := hid (hQ.out.gb hg5 hgq)
   have R5 := hid (hR.out.gb hg5 hne)
   have B5 := hid (below_gb hB.out hB.out.size hg5 hgw)
   have A5 := hid hA5
   have d3 := Q5.out.cell hz
   have d4 := Q5.out.free j
   clear hw5 hA5 hg5 hqv hz
   go_wp2_with fail
   go_roundw
   case rel =>
    have hs : Below w5.heap.size w5 w5 := Below.refl _ _
    have hset : w5.grownBy (w5.setCell ⟨w3.heap.size, j, none⟩ (.int .i64 (qv : Int))) (some w3.heap.size) := gb_set (World.grownBy.refl _ _) _ _
    exact ⟨j, _, o5, _, rfl, rfl, by omega, HN5, A5.out.gb hset (fun e => hgq e.symm), Q5.out.set j qv, R5.out.gb hset (by omega), below_set B5.out hqw _⟩
   case measure => simp [intOf] <;> omega
theorem r1_Divide (w : World) (v u : Value) (a b : Nat) (ha : IsN .i64 w v a) (hb : IsN .i64 w u b) (h0 : 0 < b) (hla : (limbs a).length ≤ 1000000) :
 Calls Tryz.prog 109 #[v, u] w fun e w' => RetNN .i64 (a / b) (a % b) e w' ∧ Below w.heap.size w w' := by
 by_cases hlt : a < b
 ·exact divide_less w v u a b ha hb hlt
 ·by_cases h1 : b < 1000000000
  ·exact divide_one w v u a b ha hb (by omega) h0 h1 hla
  ·refine divide_many w v u a b _ ha hb (by omega) rfl ?_ hla
   have : 1 < (limbs b).length := limbs_lt_length.2 (by omega)
   omega
theorem r1_Common (w : World) (v u : Value) (a b : Nat) (ha : IsN .i64 w v a) (hb : IsN .i64 w u b) (hla : (limbs a).length ≤ 1000000) (hlb : (limbs b).length ≤ 1000000) :
 Calls Tryz.prog 126 #[v, u] w fun e w' => RetN .i64 (Nat.gcd a b) e w' ∧ Below w.heap.size w w' := by
 have HA := hid ha; have HB := hid hb; have LA := hid hla; have LB := hid hlb
 clear ha hb hla hlb
 go_enter Tryz.func126, Tryz.ntmps126
 go_wp2_with fail
 go_loopw [0, 1, 5, 6] (fun x y q r wr => ∃ m n : Nat, Hid (IsN .i64 wr x m) ∧ Hid (IsN .i64 wr y n) ∧ Hid ((limbs m).length ≤ 1000000) ∧ Hid ((limbs n).length ≤ 1000000) ∧ Hid (Nat.gcd m n = Nat.gcd a b) ∧ Hid (Below w.heap.size w wr))
  (fun x y q r wr => numOf .i64 wr y)
 case atStart => exact ⟨a, b, HA, HB, LA, LB, rfl, Below.refl _ _⟩
 case round =>
  obtain ⟨m, n, hx, hy, hm, hn, hg, hB⟩ := hrel
  have hnum := hid (numOf_eq hy.out)
  obtain ⟨a1, c1, rfl, h1, h1', h1''⟩ := hx.out.openI
  obtain ⟨a2, c2, rfl, h2, h2', h2''⟩ := hy.out.openI
  clear h1'' h2''
  by_cases h0 : n = 0
  ·subst h0
   have hl : (limbs 0).length = 0 := by rw [limbs_zero]; rfl
   rw [hl] at *
   clear hl
   go_wp2_with fail
   go_ret
   exact ⟨⟨_, rfl, by rw [← hg.out, Nat.gcd_zero_right]; exact hx.out⟩, hB.out⟩
  ·have hpos : 0 < (limbs n).length := List.length_pos_iff.2 (fun e => h0 (limbs_nil.1 e))
   have q0 : decide ((0 : Int) < ((limbs n).length : Int)) = true := by simp; omega
   go_wp2_with fail
   refine (r1_Divide _ _ _ m n hx.out hy.out (by omega) hm.out).mono ?_
   rintro e w1 ⟨⟨v1, v2, rfl, hv1, hv2⟩, hb1⟩
   have V2 := hid hv2; have B1 := hid (bnext hB.out hb1); have Y1 := hid (hy.out.call hb1)
   have hlt := hid (Nat.mod_lt m (y := n) (by omega))
   have hll := hid (show (limbs (m % n)).length ≤ 1000000 from Nat.le_trans (limbs_length_mono (Nat.le_of_lt hlt.out)) hn.out)
   have hgg := hid (show Nat.gcd n (m % n) = Nat.gcd a b from by rw [← hg.out, Nat.gcd_comm m n, Nat.gcd_rec n m, Nat.gcd_comm]) 
   clear hv1 hv2 hb1
   go_wp2_with fail
   go_roundw
   case rel => exact ⟨n, m % n, Y1, V2, hn, hll, hgg, B1⟩
   case measure => rw [numOf_eq V2.out, hnum.out]; exact hlt.out
open Go.Lib (decDigits nDigits)
theorem r2_one (w : World) : Calls Tryz.prog 75 #[] w fun e w' => RetN .i64 1 e w' ∧ Below w.heap.size w w' := by
 have H1 := hid (isN_one w)
 go_enter Tryz.func75, Tryz.ntmps75
 go_wp2_with fail
 go_ret
 exact ⟨⟨_, rfl, H1.out⟩, (Below.refl _ _).alloc (Nat.le_refl _) _⟩
theorem r2_Reduce (w : World) (m : Bool) (v u : Value) (n d : Nat) (hn : IsN .i64 w v n) (hd : IsN .i64 w u d) (h0 : 0 < d) (hln : (limbs n).length ≤ 1000000) (hld : (limbs d).length ≤ 1000000) :
 Calls Tryz.prog 111 #[.bool m, v, u] w fun e w' => RetQ .i64 (qmk m n d) e w' ∧ Below w.heap.size w w' := by
 have HN := hid hn; have HD := hid hd
 obtain ⟨a1, c1, rfl, _⟩ := hn.openI
 obtain ⟨a2, c2, rfl, _⟩ := hd.openI
 clear hn hd
 rcases Nat.eq_zero_or_pos n with rfl | hp
 ·have hl : (limbs 0).length = 0 := by rw [limbs_zero]; rfl
  rw [hl] at HN ⊢
  have hq := hid (qmk_zero m d)
  rw [hq.out]
  clear hl
  go_enter Tryz.func111, Tryz.ntmps111
  go_wp2_with fail
  refine (r2_one _).mono ?_; rintro e w1 ⟨⟨v1, rfl, hv1⟩, hb1⟩
  obtain ⟨a3, c3, rfl, _⟩ := hv1.openI
  have HV := hid hv1
  have HB := hid (show Blk w1 w.heap.size #[.bool false, .slice none 0 0, .slice none 0 0] 79 from (Blk.new w _ _).call hb1)
  have d0 := HB.out.cell 0
  have d1 := HB.out.cell 1
  have d2 := HB.out.cell 2
  have e0 := HB.out.free 0
  have e1 := HB.out.free 1
  have e2 := HB.out.free 2
  have HBB := hid hb1
  clear hb1 hv1
  simp at d0 d1 d2
  go_wp2_with fail
  obtain ⟨s1, s2⟩ := set3 HB.out false none a3 0 0 (limbs 1).length c3
  have f0 := s2.cell 0
  have f1 := s2.cell 1
  have f2 := s2.cell 2
  simp at f0 f1 f2
  refine bodyPost_ret (v := .agg #[.bool false, .slice none 0 0, .slice a3 (limbs 1).length c3]) (by simp [results, Tryz.results111, go_sem, f0, f1, f2]) rfl ⟨⟨_, rfl, IsQ.zero_ (s1 _ _ _ (IsN.zero _ _)) (s1 _ _ _ HV.out)⟩, ?_⟩
  exact (((((Below.refl _ _).alloc (Nat.le_refl _) _).trans (HBB.out.mono (by simp))).setCell (Nat.le_refl _) _).setCell (Nat.le_refl _) _).setCell (Nat.le_refl _) _
 ·have hpos : 0 < (limbs n).length := List.length_pos_iff.2 (fun e => by have := limbs_nil.1 e; omega)
  have q0 : (((limbs n).length : Int) == 0) = false := beq_eq_false_iff_ne.2 (by omega)
  obtain ⟨g, hg⟩ : ∃ g, Nat.gcd n d = g := ⟨_, rfl⟩
  have hgp : 0 < g := hg ▸ Nat.gcd_pos_of_pos_left d hp
  have HG := hid hg; have HGP := hid hgp; have HP := hid hp; have H0 := hid h0; have HLN := hid hln; have HLD := hid hld
  clear hg hgp hp h0 hln hld hpos
  go_enter Tryz.func111, Tryz.ntmps111
  go_wp2_with fail
  refine (r1_Common _ _ _ n d (HN.out.call ((Below.refl _ _).alloc (Nat.le_refl _) _)) (HD.out.call ((Below.refl _ _).alloc (Nat.le_refl _) _)) HLN.out HLD.out).mono ?_
  rintro e w1 ⟨⟨v1, rfl, hv1⟩, hb1⟩
  rw [HG.out] at hv1
  have HB1 := hid (show Blk w1 w.heap.size #[.bool false, .slice none 0 0, .slice none 0 0] 79 from (Blk.new w _ _).call hb1)
  have B1 := hid (((Below.refl w.heap.size w).alloc (Nat.le_refl _) (.cells #[.bool false, .slice none 0 0, .slice none 0 0] 79)).trans (hb1.mono (by simp)))
  have N1 := hid (HN.out.call B1.out); have D1 := hid (HD.out.call B1.out); have G1 := hid hv1
  clear hb1 hv1
  go_wp2_with fail
  refine (r1_Divide _ _ _ n g N1.out G1.out HGP.out HLN.out).mono ?_
  rintro e w2 ⟨⟨v2, v3, rfl, hv2, -⟩, hb2⟩
  have HB2 := hid (HB1.out.call hb2); have B2 := hid (bnext B1.out hb2); have D2 := hid (D1.out.call hb2); have G2 := hid (G1.out.call hb2); have V2 := hid hv2
  clear hb2 hv2
  go_wp2_with fail
  refine (r1_Divide _ _ _ d g D2.out G2.out HGP.out HLD.out).mono ?_
  rintro e w3 ⟨⟨v4, v5, rfl, hv4, -⟩, hb3⟩
  have HB3 := hid (HB2.out.call hb3); have B3 := hid (bnext B2.out hb3); have W2 := hid (V2.out.call hb3); have W4 := hid hv4
  clear hb3 hv4
  obtain ⟨a3, c3, rfl, _⟩ := W2.out.openI
  obtain ⟨a4, c4, rfl, _⟩ := W4.out.openI
  have d0 := HB3.out.cell 0
  have d1 := HB3.out.cell 1
  have d2 := HB3.out.cell 2
  have e0 := HB3.out.free 0
  have e1 := HB3.out.free 1
  have e2 := HB3.out.free 2
  simp at d0 d1 d2
  go_wp2_with fail
  obtain ⟨s1, s2⟩ := set3 HB3.out m a3 a4 (limbs (n / g)).length c3 (limbs (d / g)).length c4
  have f0 := s2.cell 0
  have f1 := s2.cell 1
  have f2 := s2.cell 2
  simp at f0 f1 f2
  refine bodyPost_ret (v := .agg #[.bool m, .slice a3 (limbs (n / g)).length c3, .slice a4 (limbs (d / g)).length c4]) (by simp [results, Tryz.results111, go_sem, f0, f1, f2]) rfl ⟨⟨_, rfl, IsQ.mk' HP.out H0.out (HG.out ▸ s1 _ _ _ W2.out) (HG.out ▸ s1 _ _ _ W4.out)⟩, ?_⟩
  exact ((B3.out.setCell (Nat.le_refl _) _).setCell (Nat.le_refl _) _).setCell (Nat.le_refl _) _
end Go.Proofs.YtlimaehdmcnjaaaGreatDoor
namespace Go.Proofs.YtlimaehdmcnjaaaGreatDoor
open Go.RowKit
open Go.Shelf
theorem bN_limbs {s : ByteArray} (h : allDig s.data.toList) (hs : ¬ 4000 < s.size) : (limbs (bN s)).length ≤ 1000000 := by
 refine dv_limbs h ?_
 have : s.data.toList.length = s.size := Array.length_toList
 omega
theorem qD_false {s : ByteArray} (h : cS s = false) : qD s = ⟨#[49]⟩ := by simp [qD, h]
theorem qD_true {s : ByteArray} (h : cS s = true) : qD s = cB s := by simp [qD, h]
end Go.Proofs.YtlimaehdmcnjaaaGreatDoor
