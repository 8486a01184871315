/- Walks: the reference's Divide. -/
import Derived.Test.YtjgcjjbnnlnilaaGreatDoorKe5
import Derived.Deep.AppendLies
import Derived.RangeFuncBox
import Derived.Scope
namespace Go.Proofs.YtjgcjjbnnlnilaaGreatDoor
open Go.RowKit
set_option linter.unusedVariables false

theorem divide_less (w : World) (v u : Value) (a b : Nat) (ha : IsN .i64 w v a) (hb : IsN .i64 w u b) (hlt : a < b) :
    Calls Tryz.prog 82 #[v, u] w fun e w' => RetNN .i64 (a / b) (a % b) e w' ∧ Below w.heap.size w w' := by
  have HA := hid ha; have HB := hid hb; have HL := hid (ordN_lt hlt); have HQ := hid (Nat.div_eq_of_lt hlt); have HR := hid (Nat.mod_eq_of_lt hlt)
  obtain ⟨a1, c1, rfl, _⟩ := ha.openI
  obtain ⟨a2, c2, rfl, _⟩ := hb.openI
  clear ha hb hlt
  go_enter Tryz.func82, Tryz.ntmps82
  go_wp2_with fail
  refine (r1_Order _ _ _ a b HA.out HB.out).mono ?_; rintro e w1 ⟨rfl, hb1⟩
  have B1 := hid hb1; clear hb1
  rw [HL.out]
  go_wp2_with fail
  go_ret2
  exact ⟨⟨_, _, rfl, by rw [HQ.out]; exact IsN.zero _ _, by rw [HR.out]; exact HA.out.call B1.out⟩, B1.out⟩

set_option maxRecDepth 100000 in
set_option maxHeartbeats 2000000 in
theorem divide_one (w : World) (v u : Value) (a b : Nat) (ha : IsN .i64 w v a) (hb : IsN .i64 w u b) (hle : b ≤ a) (h0 : 0 < b) (h1 : b < 1000000000) (hla : (limbs a).length ≤ 1000000) :
    Calls Tryz.prog 82 #[v, u] w fun e w' => RetNN .i64 (a / b) (a % b) e w' ∧ Below w.heap.size w w' := by
  have HA := hid ha; have HB := hid hb
  have hord : ordN a b = 0 ∨ ordN a b = 1 := by
    unfold ordN; split
    · omega
    · split <;> simp
  obtain ⟨a1, c1, rfl, h1', _⟩ := ha.openI
  obtain ⟨a2, c2, rfl, h2', h3', h4'⟩ := hb.openI
  have hl1 : limbs b = [b] := limbs_small h0 h1
  obtain ⟨g, o, rfl, hg, hc⟩ := h4' 0 b (by rw [hl1]; rfl)
  rw [Nat.add_zero] at hc
  have HC := hid hc
  have hlen : (limbs b).length = 1 := by rw [hl1]; rfl
  rw [hlen] at HB h2' ⊢
  clear ha hb hc h4' hl1 hlen
  go_enter Tryz.func82, Tryz.ntmps82
  go_wp2_with fail
  refine (r1_Order _ _ _ a b HA.out HB.out).mono ?_; rintro e w1 ⟨rfl, hb1⟩
  have d1 := (hb1.cell (p := ⟨g, o, none⟩) hg).trans HC.out
  have B1 := hid hb1; clear hb1
  obtain ⟨t, ht⟩ : ∃ t, ordN a b = t := ⟨_, rfl⟩
  rw [ht] at hord ⊢
  have q0 : decide (t < 0) = false := by simp; omega
  clear ht hord
  go_wp2_with fail
  refine (r1_short _ _ a b (HA.out.call B1.out) h0 h1 hla).mono ?_; rintro e w2 ⟨⟨v2, rfl, hv2⟩, hb2⟩
  have B2 := hid hb2; have V2 := hid hv2; clear hb2 hv2
  have hrb : a % b < 1000000000 := Nat.lt_trans (Nat.mod_lt a h0) h1
  go_wp2_with fail
  refine (r1_trim _ _ [a % b] (Sm.cons hrb Sm.nil) ?_).mono ?_
  · exact Row.of_blk (b := w2.heap.size) (n := 1) (c := 1) (cs := #[.int .i64 ((a % b : Nat) : Int)]) (Blk.new w2 _ _) rfl (by unfold maxLen; omega) (fun i x hx => by simpa [ints] using hx) (Nat.le_refl _) (by unfold maxLen; omega)
  · rintro e w3 ⟨⟨v3, rfl, hv3⟩, rfl⟩
    have V3 := hid hv3; clear hv3
    go_wp2_with fail
    go_ret2
    have hb3 : Below w2.heap.size w2 (w2.alloc (.cells #[.int .i64 ((a % b : Nat) : Int)] 3)) := (Below.refl _ _).alloc (Nat.le_refl _) _
    refine ⟨⟨_, _, rfl, V2.out.call hb3, ?_⟩, bnext (bnext B1.out B2.out) hb3⟩
    have := V3.out
    rwa [show val [a % b] = a % b by simp [val_cons]] at this

set_option maxRecDepth 100000 in
set_option maxHeartbeats 4000000 in
theorem divide_many (w : World) (v u : Value) (a b m : Nat) (ha : IsN .i64 w v a) (hb : IsN .i64 w u b) (hle : b ≤ a) (hn : (limbs b).length = m) (hm2 : 2 ≤ m) (hla : (limbs a).length ≤ 1000000) :
    Calls Tryz.prog 82 #[v, u] w fun e w' => RetNN .i64 (a / b) (a % b) e w' ∧ Below w.heap.size w w' := by
  have HA := hid ha; have HB := hid hb
  have hord : ordN a b = 0 ∨ ordN a b = 1 := by
    unfold ordN; split
    · omega
    · split <;> simp
  have hmn := limbs_length_mono hle
  obtain ⟨a1, c1, rfl, h1', _⟩ := ha.openI
  obtain ⟨a2, c2, rfl, h2', h3', h4'⟩ := hb.openI
  obtain ⟨x, hx⟩ : ∃ x, (limbs b)[m - 1]? = some x := ⟨_, List.getElem?_eq_getElem (by omega)⟩
  obtain ⟨g, o, rfl, hg, hc⟩ := h4' (m - 1) x hx
  have HC := hid hc
  have hn1 : (limbs b).length = (m - 1) + 1 := by omega
  obtain ⟨s1, s2, s3⟩ := scale_len hn1 hx
  obtain ⟨t1, t2, _⟩ := top_limb hn1 hx
  obtain ⟨d, hd⟩ : ∃ d, 1000000000 / (x + 1) = d := ⟨_, rfl⟩
  rw [hd] at s1 s2 s3
  have HS := hid (show (limbs (b * d)).length = m by omega)
  have hdI := hid (show ((1000000000 : Int) / ((x : Int) + 1)) = (d : Int) from by rw [← hd]; rfl)
  rw [hn] at h2' hmn ⊢
  obtain ⟨L, hL⟩ : ∃ L, (limbs a).length = L := ⟨_, rfl⟩
  rw [hL] at hmn h1' ⊢
  have hla' : L ≤ 1000000 := by omega
  have HL := hid hL; have HN := hid hn; have HLA := hid hla; have HLE := hid hle
  rw [hL] at HA; rw [hn] at HB
  obtain ⟨K, hK⟩ : ∃ K, K = L + 1 - m := ⟨_, rfl⟩
  have hKI := hid (show ((L : Int) + 1 - (m : Int)) = (K : Int) by omega)
  have hKL : K + m = L + 1 := by omega
  have hmk := hid (fun W => make_limbs K (by omega) W)
  clear ha hb hc h4' hx hd s1 hL hn hla hle hn1 hK
  go_enter Tryz.func82, Tryz.ntmps82
  go_wp2_with fail
  refine (r1_Order _ _ _ a b HA.out HB.out).mono ?_; rintro e w1 ⟨rfl, hb1⟩
  have d1 := (hb1.cell (p := ⟨g, o + (m - 1), none⟩) hg).trans HC.out
  have B1 := hid hb1; clear hb1
  obtain ⟨t, ht⟩ : ∃ t, ordN a b = t := ⟨_, rfl⟩
  rw [ht] at hord ⊢
  have q0 : decide (t < 0) = false := by simp; omega
  clear ht hord
  go_wp2_with fail
  rw [hdI.out]
  refine (r1_scaled _ _ a d (HA.out.call B1.out) s3 HLA.out).mono ?_; rintro e w2 ⟨⟨gu, ou, rfl, hgu, hAu, lu, su, vu⟩, hb2⟩
  have B2 := hid (bnext B1.out hb2); have AU := hid hAu; have LU := hid lu; have SU := hid su; have VU := hid vu
  have hul := hAu.lt
  rw [HL.out] at LU ⊢
  clear hAu lu su vu d1
  go_wp2_with fail
  refine (r1_scaled _ _ b d (HB.out.call B2.out) s3 (by rw [HN.out]; omega)).mono ?_; rintro e w3 ⟨⟨gv, ov, rfl, hgv, hAv, lv, sv, vv⟩, hb3⟩
  have B3 := hid (bnext B2.out hb3); have AU3 := hid (AU.out.call hb3)
  have hne : gv ≠ gu := by omega
  have LV := hid lv; have VV := hid vv; have SV := hid sv
  clear lv vv sv
  go_wp2_with fail
  rw [← LV.out]
  refine (r1_trim_at _ _ _ ov SV.out (by have := hAv.row (n := ov.length) (c := ov.length) (Nat.le_refl _) (Nat.le_refl _) (by rw [LV.out, HN.out]; unfold maxLen; omega); rwa [List.take_of_length_le (Nat.le_refl _)] at this)).mono ?_
  rintro e w4 ⟨⟨m', rfl, hm'⟩, rfl⟩
  rw [VV.out] at hm'
  have hmm : m' = m := by have := hm'.len.1; rw [ints_length, HS.out] at this; exact this
  subst hmm
  have RV := hid hm'
  have hvl := hAv.lt
  clear hAv hm' AU
  have y1 := hKI.out; have y2 := hmk.out
  go_wp2_with fail
  clear y1 y2
  have hV := hid (val_limbs (b * d))
  have D0 := hid (show DivI (a * d) (b * d) m' (L + 1) K ou (List.replicate K 0) from by
    have h1 : 1000000000 ^ (m' - 1) ≤ b := limbs_lt_length.1 (by rw [HN.out]; omega)
    have h2 : b * d ≤ 1000000000 ^ m' := Nat.le_of_lt (limbs_length_le.1 (by rw [HS.out]; exact Nat.le_refl _))
    have h3 : a < 1000000000 ^ L := limbs_length_le.1 (by rw [HL.out]; exact Nat.le_refl _)
    have := DivI.start (U := a * d) (V := b * d) (n := m') h2 SU.out LU.out (by omega) VU.out (scaled_top LU.out VU.out h3 (by omega) (by omega) h1 s2)
    rwa [show L + 1 - m' = K by omega] at this)
  go_loopw [13] (fun jj wr => ∃ (k : Nat) (t : Int) (o Q : List Nat), jj = .int .i64 t ∧ t = (k : Int) - 1 ∧ k ≤ K ∧ Hid (DivI (a * d) (b * d) m' (L + 1) k o Q) ∧ Hid (Arr .i64 3 wr gu o) ∧ Hid (Arr .i64 3 wr w3.heap.size Q) ∧ Hid (Row wr (.slice (some ⟨gv, 0, none⟩) m' ov.length) (ints .i64 (limbs (b * d)))) ∧ Hid (Below w.heap.size w wr)) (fun jj _ => (intOf jj + 1).toNat)
  case atStart =>
    have ha : Below w3.heap.size w3 (w3.alloc (.cells (madeCells #[.int .i64 0] K) 3)) := (Below.refl _ _).alloc (Nat.le_refl _) _
    exact ⟨K, _, ou, _, rfl, rfl, Nat.le_refl _, D0, AU3.out.call ha, Arr.made w3 .i64 3 K, RV.out.call ha, bnext B3.out ha⟩
  case round =>
    obtain ⟨k, t, o2, Q, rfl, ht, hk, hD, hU, hQ, hR, hB⟩ := hrel
    have hol := hid hD.out.lo
    have hql := hid (show Q.length = K from by rw [hD.out.lq]; omega)
    cases k with
    | zero =>
      obtain rfl : t = -1 := by omega
      clear ht
      obtain ⟨r1, r2, r3⟩ := hD.out.done (by omega)
      have hfin := hid (div_end (a := a) (b := b) s2 r1 r2)
      have R3 := hid r3
      have hlen : (limbs (val (o2.take m'))).length ≤ 1000000 := by
        rw [r3]
        have := limbs_length_mono (Nat.le_of_lt r2)
        rw [HS.out] at this
        omega
      clear r1 r2 r3
      go_wp2_with fail
      refine (r1_trim _ _ (o2.take m') (hD.out.so.take _) (hU.out.row (by rw [hol.out]; omega) (by omega) (by unfold maxLen; omega))).mono ?_
      rintro e w5 ⟨⟨v5, rfl, hv5⟩, rfl⟩
      go_wp2_with fail
      refine (r1_short _ v5 _ d hv5 s2 s3 hlen).mono ?_
      rintro e w6 ⟨⟨v6, rfl, hv6⟩, hb6⟩
      have V6 := hid hv6; have B6 := hid hb6; have Q6 := hid (hQ.out.call hb6)
      clear hv5 hv6 hb6
      go_wp2_with fail
      refine (r1_trim _ _ Q hD.out.sq (by have := Q6.out.row (n := K) (c := K) (by rw [hql.out]; exact Nat.le_refl _) (Nat.le_refl _) (by unfold maxLen; omega); rwa [List.take_of_length_le (by rw [hql.out]; exact Nat.le_refl _)] at this)).mono ?_
      rintro e w7 ⟨⟨v7, rfl, hv7⟩, rfl⟩
      go_wp2_with fail
      go_ret2
      refine ⟨⟨v7, v6, rfl, by rw [← hfin.out.1]; exact hv7, ?_⟩, bnext hB.out B6.out⟩
      have := V6.out
      rwa [R3.out, hfin.out.2] at this
    | succ j =>
      obtain rfl : t = (j : Int) := by omega
      clear ht
      have hS := hid (show StepIn o2 (limbs (b * d)) j m' from ⟨hm2, by omega, HS.out, by rw [hol.out]; omega, by rw [hol.out]; omega, hD.out.so, sm_limbs _, limbs_top (n := m' - 1) (by rw [HS.out]; omega), by rw [hV.out]; exact hD.out.win (by omega)⟩)
      obtain ⟨z, hz⟩ : ∃ z, Q[j]? = some z := ⟨_, List.getElem?_eq_getElem (by rw [hql.out]; omega)⟩
      have hgq : w3.heap.size ≠ gu := by omega
      have hgw : w.heap.size ≤ gu := Nat.le_trans B1.out.size hgu
      have hqw : w.heap.size ≤ w3.heap.size := B3.out.size
      go_wp2_with fail
      rw [show j + m' + 1 - j = m' + 1 by omega]
      refine (r1_step _ gu j _ o2 gv 0 _ (limbs (b * d)) m' hS.out hU.out hR.out hne).mono ?_
      rintro e w5 ⟨he, o5, hw5, hA5, hg5⟩
      rw [hV.out] at he hw5
      have HN5 := hid (hD.out.next (by omega) hw5)
      obtain ⟨qv, hqv⟩ : ∃ q, val ((o2.drop j).take (m' + 1)) / (b * d) = q := ⟨_, rfl⟩
      rw [hqv] at he HN5
      subst he
      have Q5 := hid (hQ.out.gb hg5 hgq)
      have R5 := hid (hR.out.gb hg5 hne)
      have B5 := hid (below_gb hB.out hB.out.size hg5 hgw)
      have A5 := hid hA5
      have d3 := Q5.out.cell hz
      have d4 := Q5.out.free j
      clear hw5 hA5 hg5 hqv hz
      go_wp2_with fail
      go_roundw
      case rel =>
        have hs : Below w5.heap.size w5 w5 := Below.refl _ _
        have hset : w5.grownBy (w5.setCell ⟨w3.heap.size, j, none⟩ (.int .i64 (qv : Int))) (some w3.heap.size) := gb_set (World.grownBy.refl _ _) _ _
        exact ⟨j, _, o5, _, rfl, rfl, by omega, HN5, A5.out.gb hset (fun e => hgq e.symm), Q5.out.set j qv, R5.out.gb hset (by omega), below_set B5.out hqw _⟩
      case measure => simp [intOf] <;> omega

/-- THE LONG DIVISION, whole. -/
theorem r1_Divide (w : World) (v u : Value) (a b : Nat) (ha : IsN .i64 w v a) (hb : IsN .i64 w u b) (h0 : 0 < b) (hla : (limbs a).length ≤ 1000000) :
    Calls Tryz.prog 82 #[v, u] w fun e w' => RetNN .i64 (a / b) (a % b) e w' ∧ Below w.heap.size w w' := by
  by_cases hlt : a < b
  · exact divide_less w v u a b ha hb hlt
  · by_cases h1 : b < 1000000000
    · exact divide_one w v u a b ha hb (by omega) h0 h1 hla
    · refine divide_many w v u a b _ ha hb (by omega) rfl ?_ hla
      have : 1 < (limbs b).length := limbs_lt_length.2 (by omega)
      omega
end Go.Proofs.YtjgcjjbnnlnilaaGreatDoor

/- Walks: the reference's Common. -/
namespace Go.Proofs.YtjgcjjbnnlnilaaGreatDoor
open Go.RowKit
set_option linter.unusedVariables false

set_option maxHeartbeats 2000000 in
theorem r1_Common (w : World) (v u : Value) (a b : Nat) (ha : IsN .i64 w v a) (hb : IsN .i64 w u b) (hla : (limbs a).length ≤ 1000000) (hlb : (limbs b).length ≤ 1000000) :
    Calls Tryz.prog 119 #[v, u] w fun e w' => RetN .i64 (Nat.gcd a b) e w' ∧ Below w.heap.size w w' := by
  have HA := hid ha; have HB := hid hb; have LA := hid hla; have LB := hid hlb
  clear ha hb hla hlb
  go_enter Tryz.func119, Tryz.ntmps119
  go_wp2_with fail
  go_loopw [0, 1, 5, 6] (fun x y q r wr => ∃ m n : Nat, Hid (IsN .i64 wr x m) ∧ Hid (IsN .i64 wr y n) ∧ Hid ((limbs m).length ≤ 1000000) ∧ Hid ((limbs n).length ≤ 1000000) ∧ Hid (Nat.gcd m n = Nat.gcd a b) ∧ Hid (Below w.heap.size w wr))
    (fun x y q r wr => numOf .i64 wr y)
  case atStart => exact ⟨a, b, HA, HB, LA, LB, rfl, Below.refl _ _⟩
  case round =>
    obtain ⟨m, n, hx, hy, hm, hn, hg, hB⟩ := hrel
    have hnum := hid (numOf_eq hy.out)
    obtain ⟨a1, c1, rfl, h1, h1', h1''⟩ := hx.out.openI
    obtain ⟨a2, c2, rfl, h2, h2', h2''⟩ := hy.out.openI
    clear h1'' h2''
    by_cases h0 : n = 0
    · subst h0
      have hl : (limbs 0).length = 0 := by rw [limbs_zero]; rfl
      rw [hl] at *
      clear hl
      go_wp2_with fail
      go_ret
      exact ⟨⟨_, rfl, by rw [← hg.out, Nat.gcd_zero_right]; exact hx.out⟩, hB.out⟩
    · have hpos : 0 < (limbs n).length := List.length_pos_iff.2 (fun e => h0 (limbs_nil.1 e))
      have q0 : decide ((0 : Int) < ((limbs n).length : Int)) = true := by simp; omega
      go_wp2_with fail
      refine (r1_Divide _ _ _ m n hx.out hy.out (by omega) hm.out).mono ?_
      rintro e w1 ⟨⟨v1, v2, rfl, hv1, hv2⟩, hb1⟩
      have V2 := hid hv2; have B1 := hid (bnext hB.out hb1); have Y1 := hid (hy.out.call hb1)
      have hlt := hid (Nat.mod_lt m (y := n) (by omega))
      have hll := hid (show (limbs (m % n)).length ≤ 1000000 from Nat.le_trans (limbs_length_mono (Nat.le_of_lt hlt.out)) hn.out)
      have hgg := hid (show Nat.gcd n (m % n) = Nat.gcd a b from by rw [← hg.out, Nat.gcd_comm m n, Nat.gcd_rec n m, Nat.gcd_comm]) 
      clear hv1 hv2 hb1
      go_wp2_with fail
      go_roundw
      case rel => exact ⟨n, m % n, Y1, V2, hn, hll, hgg, B1⟩
      case measure => rw [numOf_eq V2.out, hnum.out]; exact hlt.out
end Go.Proofs.YtjgcjjbnnlnilaaGreatDoor

/- Walks: the reference's one, Reduce. -/
namespace Go.Proofs.YtjgcjjbnnlnilaaGreatDoor
open Go.RowKit
open Go.Lib (decDigits nDigits)
set_option linter.unusedVariables false

theorem r2_one (w : World) : Calls Tryz.prog 61 #[] w fun e w' => RetN .i64 1 e w' ∧ Below w.heap.size w w' := by
  have H1 := hid (isN_one w)
  go_enter Tryz.func61, Tryz.ntmps61
  go_wp2_with fail
  go_ret
  exact ⟨⟨_, rfl, H1.out⟩, (Below.refl _ _).alloc (Nat.le_refl _) _⟩

set_option maxHeartbeats 1000000 in
theorem r2_Reduce (w : World) (m : Bool) (v u : Value) (n d : Nat) (hn : IsN .i64 w v n) (hd : IsN .i64 w u d) (h0 : 0 < d) (hln : (limbs n).length ≤ 1000000) (hld : (limbs d).length ≤ 1000000) :
    Calls Tryz.prog 113 #[.bool m, v, u] w fun e w' => RetQ .i64 (qmk m n d) e w' ∧ Below w.heap.size w w' := by
  have HN := hid hn; have HD := hid hd
  obtain ⟨a1, c1, rfl, _⟩ := hn.openI
  obtain ⟨a2, c2, rfl, _⟩ := hd.openI
  clear hn hd
  rcases Nat.eq_zero_or_pos n with rfl | hp
  · have hl : (limbs 0).length = 0 := by rw [limbs_zero]; rfl
    rw [hl] at HN ⊢
    have hq := hid (qmk_zero m d)
    rw [hq.out]
    clear hl
    go_enter Tryz.func113, Tryz.ntmps113
    go_wp2_with fail
    refine (r2_one _).mono ?_; rintro e w1 ⟨⟨v1, rfl, hv1⟩, hb1⟩
    obtain ⟨a3, c3, rfl, _⟩ := hv1.openI
    have HV := hid hv1
    have HB := hid (show Blk w1 w.heap.size #[.bool false, .slice none 0 0, .slice none 0 0] 89 from (Blk.new w _ _).call hb1)
    have d0 := HB.out.cell 0
    have d1 := HB.out.cell 1
    have d2 := HB.out.cell 2
    have e0 := HB.out.free 0
    have e1 := HB.out.free 1
    have e2 := HB.out.free 2
    have HBB := hid hb1
    clear hb1 hv1
    simp at d0 d1 d2
    go_wp2_with fail
    obtain ⟨s1, s2⟩ := set3 HB.out false none a3 0 0 (limbs 1).length c3
    have f0 := s2.cell 0
    have f1 := s2.cell 1
    have f2 := s2.cell 2
    simp at f0 f1 f2
    refine bodyPost_ret (v := .agg #[.bool false, .slice none 0 0, .slice a3 (limbs 1).length c3]) (by simp [results, Tryz.results113, go_sem, f0, f1, f2]) rfl ⟨⟨_, rfl, IsQ.zero_ (s1 _ _ _ (IsN.zero _ _)) (s1 _ _ _ HV.out)⟩, ?_⟩
    exact (((((Below.refl _ _).alloc (Nat.le_refl _) _).trans (HBB.out.mono (by simp))).setCell (Nat.le_refl _) _).setCell (Nat.le_refl _) _).setCell (Nat.le_refl _) _
  · have hpos : 0 < (limbs n).length := List.length_pos_iff.2 (fun e => by have := limbs_nil.1 e; omega)
    have q0 : (((limbs n).length : Int) == 0) = false := beq_eq_false_iff_ne.2 (by omega)
    obtain ⟨g, hg⟩ : ∃ g, Nat.gcd n d = g := ⟨_, rfl⟩
    have hgp : 0 < g := hg ▸ Nat.gcd_pos_of_pos_left d hp
    have HG := hid hg; have HGP := hid hgp; have HP := hid hp; have H0 := hid h0; have HLN := hid hln; have HLD := hid hld
    clear hg hgp hp h0 hln hld hpos
    go_enter Tryz.func113, Tryz.ntmps113
    go_wp2_with fail
    refine (r1_Common _ _ _ n d (HN.out.call ((Below.refl _ _).alloc (Nat.le_refl _) _)) (HD.out.call ((Below.refl _ _).alloc (Nat.le_refl _) _)) HLN.out HLD.out).mono ?_
    rintro e w1 ⟨⟨v1, rfl, hv1⟩, hb1⟩
    rw [HG.out] at hv1
    have HB1 := hid (show Blk w1 w.heap.size #[.bool false, .slice none 0 0, .slice none 0 0] 89 from (Blk.new w _ _).call hb1)
    have B1 := hid (((Below.refl w.heap.size w).alloc (Nat.le_refl _) (.cells #[.bool false, .slice none 0 0, .slice none 0 0] 89)).trans (hb1.mono (by simp)))
    have N1 := hid (HN.out.call B1.out); have D1 := hid (HD.out.call B1.out); have G1 := hid hv1
    clear hb1 hv1
    go_wp2_with fail
    refine (r1_Divide _ _ _ n g N1.out G1.out HGP.out HLN.out).mono ?_
    rintro e w2 ⟨⟨v2, v3, rfl, hv2, -⟩, hb2⟩
    have HB2 := hid (HB1.out.call hb2); have B2 := hid (bnext B1.out hb2); have D2 := hid (D1.out.call hb2); have G2 := hid (G1.out.call hb2); have V2 := hid hv2
    clear hb2 hv2
    go_wp2_with fail
    refine (r1_Divide _ _ _ d g D2.out G2.out HGP.out HLD.out).mono ?_
    rintro e w3 ⟨⟨v4, v5, rfl, hv4, -⟩, hb3⟩
    have HB3 := hid (HB2.out.call hb3); have B3 := hid (bnext B2.out hb3); have W2 := hid (V2.out.call hb3); have W4 := hid hv4
    clear hb3 hv4
    obtain ⟨a3, c3, rfl, _⟩ := W2.out.openI
    obtain ⟨a4, c4, rfl, _⟩ := W4.out.openI
    have d0 := HB3.out.cell 0
    have d1 := HB3.out.cell 1
    have d2 := HB3.out.cell 2
    have e0 := HB3.out.free 0
    have e1 := HB3.out.free 1
    have e2 := HB3.out.free 2
    simp at d0 d1 d2
    go_wp2_with fail
    obtain ⟨s1, s2⟩ := set3 HB3.out m a3 a4 (limbs (n / g)).length c3 (limbs (d / g)).length c4
    have f0 := s2.cell 0
    have f1 := s2.cell 1
    have f2 := s2.cell 2
    simp at f0 f1 f2
    refine bodyPost_ret (v := .agg #[.bool m, .slice a3 (limbs (n / g)).length c3, .slice a4 (limbs (d / g)).length c4]) (by simp [results, Tryz.results113, go_sem, f0, f1, f2]) rfl ⟨⟨_, rfl, IsQ.mk' HP.out H0.out (HG.out ▸ s1 _ _ _ W2.out) (HG.out ▸ s1 _ _ _ W4.out)⟩, ?_⟩
    exact ((B3.out.setCell (Nat.le_refl _) _).setCell (Nat.le_refl _) _).setCell (Nat.le_refl _) _
end Go.Proofs.YtjgcjjbnnlnilaaGreatDoor

/- Plain mathematics: the inverse and the product of rational numbers by their parts. -/
namespace Go.Proofs.YtjgcjjbnnlnilaaGreatDoor

theorem inv_num {q : Rat} (h0 : q ≠ 0) : (decide (q⁻¹.num < 0)) = decide (q.num < 0) ∧ q⁻¹.num.natAbs = q.den ∧ q⁻¹.den = q.num.natAbs := by
  have hn : q.num ≠ 0 := fun e => h0 (Rat.num_eq_zero.1 e)
  have hd := q.den_pos
  by_cases hneg : q.num < 0
  · have : q⁻¹ = Rat.inv q := rfl
    rw [this]; unfold Rat.inv; rw [dif_pos hneg]; simp [hneg]; omega
  · have hp : q.num > 0 := by omega
    have : q⁻¹ = Rat.inv q := rfl
    rw [this]; unfold Rat.inv; rw [dif_neg hneg, dif_pos hp]; simp [hneg]

theorem sgn_mul (p q : Int) : sgn (decide (p < 0) != decide (q < 0)) (p.natAbs * q.natAbs) = p * q := by
  have hp := sgn_of p
  have hq := sgn_of q
  generalize decide (p < 0) = m at *
  generalize decide (q < 0) = n at *
  generalize p.natAbs = a at *
  generalize q.natAbs = b at *
  subst hp hq
  cases m <;> cases n <;> simp [sgn, Int.neg_mul, Int.mul_neg]

theorem qmk_mul (p q : Rat) : qmk (decide (p.num < 0) != decide (q.num < 0)) (p.num.natAbs * q.num.natAbs) (p.den * q.den) = p * q := by
  unfold qmk
  rw [sgn_mul, Rat.mkRat_mul_mkRat _ _ _ _ |>.symm, Rat.mkRat_self, Rat.mkRat_self]
end Go.Proofs.YtjgcjjbnnlnilaaGreatDoor

/- Plain: the sum of two rational numbers by sign, numerator, denominator. -/
namespace Go.Proofs.YtjgcjjbnnlnilaaGreatDoor

theorem sgn_mulN (m : Bool) (n d : Nat) : sgn m (n * d) = sgn m n * (d : Int) := by cases m <;> simp [sgn, Int.neg_mul]

theorem q_add (p q : Rat) : p + q = mkRat (sgn (decide (p.num < 0)) (p.num.natAbs * q.den) + sgn (decide (q.num < 0)) (q.num.natAbs * p.den)) (p.den * q.den) := by
  rw [sgn_mulN, sgn_mulN, sgn_of, sgn_of, Rat.add_def', Int.mul_comm q.num]
  try rw [Int.mul_comm q.num]

theorem sgn_same (m : Bool) (x y : Nat) : sgn m x + sgn m y = sgn m (x + y) := by cases m <;> simp [sgn] <;> omega
theorem sgn_less {m1 m2 : Bool} (h : m1 ≠ m2) {x y : Nat} (hl : x < y) : sgn m1 x + sgn m2 y = sgn m2 (y - x) := by
  cases m1 <;> cases m2 <;> simp [sgn] at * <;> omega
theorem sgn_more {m1 m2 : Bool} (h : m1 ≠ m2) {x y : Nat} (hl : y ≤ x) : sgn m1 x + sgn m2 y = sgn m1 (x - y) := by
  cases m1 <;> cases m2 <;> simp [sgn] at * <;> omega
end Go.Proofs.YtjgcjjbnnlnilaaGreatDoor

/- Plain words: how many digits sums and products of rational numbers have. -/
namespace Go.Proofs.YtjgcjjbnnlnilaaGreatDoor
open Go.RowKit
open Go.Lib (decDigits nDigits)
set_option linter.unusedVariables false

theorem sgn_abs_le (m1 m2 : Bool) (x y : Nat) : (sgn m1 x + sgn m2 y).natAbs ≤ x + y := by
  cases m1 <;> cases m2 <;> simp [sgn] <;> omega

/-- A rational number of few digits. -/
structure Dig (K : Nat) (q : Rat) : Prop where
  n : q.num.natAbs < 10 ^ K
  d : q.den < 10 ^ K

theorem Dig.up {K L : Nat} {q : Rat} (h : Dig K q) (hl : K ≤ L) : Dig L q := ⟨fit_up h.n hl, fit_up h.d hl⟩
theorem Dig.fits {K : Nat} {q : Rat} (h : Dig K q) (h0 : 0 < K) (hk : K ≤ 4000) : ¬ ovQ q := by
  unfold ovQ
  have h1 := nDigits_le h0 h.n
  have h2 := nDigits_le h0 h.d
  omega
theorem dig_mk {K : Nat} {z : Int} {d : Nat} (hd : 0 < d) (h1 : z.natAbs < 10 ^ K) (h2 : d < 10 ^ K) : Dig K (mkRat z d) := by
  refine ⟨?_, ?_⟩
  · rw [Rat.num_mkRat, if_neg (by omega)]
    exact Nat.lt_of_le_of_lt (Int.natAbs_ediv_le_natAbs _ _) h1
  · rw [Rat.den_mkRat, if_neg (by omega)]
    exact Nat.lt_of_le_of_lt (Nat.div_le_self _ _) h2
theorem dig_mul {K L : Nat} {p q : Rat} (hp : Dig K p) (hq : Dig L q) : Dig (K + L) (p * q) := by
  rw [← qmk_mul]
  unfold qmk
  exact dig_mk (Nat.mul_pos p.den_pos q.den_pos) (by rw [sgn_natAbs]; exact fit_mul hp.n hq.n) (fit_mul hp.d hq.d)
theorem dig_add {K L : Nat} {p q : Rat} (hp : Dig K p) (hq : Dig L q) : Dig (K + L + 1) (p + q) := by
  rw [q_add]
  refine dig_mk (Nat.mul_pos p.den_pos q.den_pos) ?_ (fit_up (fit_mul hp.d hq.d) (by omega))
  refine Nat.lt_of_le_of_lt (sgn_abs_le _ _ _ _) ?_
  have h1 := fit_mul hp.n hq.d
  have h2 := fit_mul hq.n hp.d
  rw [Nat.add_comm L K] at h2
  exact fit_add h1 h2
theorem dig_neg {K : Nat} {q : Rat} (h : Dig K q) : Dig K (-q) := ⟨by rw [Rat.neg_num, Int.natAbs_neg]; exact h.n, by rw [Rat.neg_den]; exact h.d⟩
theorem dig_sub {K L : Nat} {p q : Rat} (hp : Dig K p) (hq : Dig L q) : Dig (K + L + 1) (p - q) := by rw [Rat.sub_eq_add_neg]; exact dig_add hp (dig_neg hq)
theorem dig_inv {K : Nat} {q : Rat} (h0 : q ≠ 0) (h : Dig K q) : Dig K q⁻¹ := ⟨by rw [(inv_num h0).2.1]; exact h.d, by rw [(inv_num h0).2.2]; exact h.n⟩
theorem dig_one : Dig 1 (1 : Rat) := ⟨by decide, by decide⟩
theorem dig_pow {K : Nat} {q : Rat} (h : Dig K q) : ∀ n : Nat, Dig (K * n + 1) (q ^ n)
  | 0 => by rw [Rat.pow_zero]; exact dig_one.up (by omega)
  | n + 1 => by
    rw [Rat.pow_succ]
    exact (dig_mul (dig_pow h n) h).up (by rw [Nat.mul_succ]; omega)

/-- The text "1". -/
def t1 : ByteArray := ⟨#[49]⟩
theorem t1_tx : t1 = txQ 1 := by
  unfold t1 txQ txB
  rw [show (1 : Rat).num.natAbs = 1 from rfl, show (1 : Rat).den = 1 from rfl, dec_one]
  rfl
theorem fits_one : ¬ ovQ 1 := dig_one.fits (by omega) (by omega)
theorem qE_t1 : qE t1 = 0 := by rw [t1_tx]; exact qE_txQ fits_one
theorem vQ_t1 : vQ t1 = 1 := by rw [t1_tx, vQ_txQ]

theorem outB_fits {q : Rat} (h : ¬ ovQ q) : outB q = txQ q := if_neg h
theorem outE_fits {q : Rat} (h : ¬ ovQ q) : outE q = 0 := if_neg h

end Go.Proofs.YtjgcjjbnnlnilaaGreatDoor

/- Walks: the reference's Make at numerals. -/
namespace Go.Proofs.YtjgcjjbnnlnilaaGreatDoor
open Go.RowKit
open Go.Lib (decDigits nDigits)
set_option linter.unusedVariables false
set_option linter.unusedSimpArgs false

theorem num_limbs {n : Nat} (h : nDigits n ≤ 4000) : (limbs n).length ≤ 1000000 := by
  exact Nat.le_trans (limbs_of_digits h) (by omega)
theorem qmk_le {a b : Nat} (h0 : b ≠ 0) : (qmk false a b).num.natAbs ≤ a ∧ (qmk false a b).den ≤ b := by
  unfold qmk
  constructor
  · rw [Rat.num_mkRat, if_neg h0]
    refine Nat.le_trans (Int.natAbs_ediv_le_natAbs _ _) ?_
    rw [sgn_natAbs]; exact Nat.le_refl _
  · rw [Rat.den_mkRat, if_neg h0]
    exact Nat.div_le_self _ _

set_option maxRecDepth 100000 in
set_option maxHeartbeats 1000000 in
theorem r2_Make_num (w : World) (a b : Nat) (ha : nDigits a ≤ 4000) (hb : nDigits b ≤ 4000) (h0 : b ≠ 0) :
    Calls Tryz.prog 63 #[.string (numB a), .string (numB b)] w fun e w' => e = .returned (.tuple #[.string (outB (qmk false a b)), .int .i64 (outE (qmk false a b))]) ∧ Below w.heap.size w w' := by
  have sa := numB_size a
  have sb := numB_size b
  have e1 : iM (numB a) = false := by
    unfold iM Lib.hasPrefix
    rw [numB_list]
    exact minus_dec a
  have e2 : iD (numB a) = numB a := iD_plain e1
  have e3 : iB (numB a) = true := by
    unfold iB
    rw [e1, e2, fB_num]; rfl
  have HI := fun V => hid (r2_integer V (numB a) (by omega))
  rw [e1, e2, e3] at HI
  have HC := fun V => hid (r1_Check V (numB b) (by omega))
  rw [errN_numB hb] at HC
  have HA := fun V => hid (r1_Read_num V a (by omega))
  have HB := fun V => hid (r1_Read_num V b (by omega))
  have la := num_limbs ha
  have lb := num_limbs hb
  have HR := fun V v u hn hd => hid (r2_Reduce V false v u a b hn hd (by omega) la lb)
  have dq : (limbs (qmk false a b).num.natAbs).length ≤ 1000000 ∧ (limbs (qmk false a b).den).length ≤ 1000000 := by
    obtain ⟨k1, k2⟩ := qmk_le (a := a) h0
    have := nDigits_mono k1
    have := nDigits_mono k2
    exact ⟨num_limbs (by omega), num_limbs (by omega)⟩
  have HW := fun V v h => hid (r2_Write V v (qmk false a b) h dq.1 dq.2)
  have hne := ne_lit (show ¬ numB b = ⟨[48].toArray⟩ from by rw [← numB_zero]; exact numB_ne h0)
  have q0 : decide ((4000 : Int) < ((numB a).size : Int)) = false := by simp; omega
  obtain ⟨oB, hB⟩ : ∃ x, outB (qmk false a b) = x := ⟨_, rfl⟩
  obtain ⟨oE, hE⟩ : ∃ x, outE (qmk false a b) = x := ⟨_, rfl⟩
  rw [hB, hE] at HW
  rw [hB, hE]
  generalize numB a = A at *
  generalize numB b = B at *
  clear e1 e2 e3 hB hE la lb dq sa sb ha hb h0
  go_enter Tryz.func63, Tryz.ntmps63
  go_wp2_with fail
  refine (HI _).out.mono ?_; rintro e w1 ⟨rfl, rfl⟩
  go_wp2_with fail
  refine (HC _).out.mono ?_; rintro e w2 ⟨rfl, rfl⟩
  go_wp2_with fail
  refine (HA _).out.mono ?_; rintro e w3 ⟨⟨v3, rfl, hv3⟩, hb3⟩
  have y3 := hid hb3; have N3 := hid hv3; clear hb3 hv3
  go_wp2_with fail
  refine (HB _).out.mono ?_; rintro e w4 ⟨⟨v4, rfl, hv4⟩, hb4⟩
  have y4 := hid (bnext y3.out hb4); have N4 := hid hv4; have M4 := hid (N3.out.call hb4); clear hb4 hv4
  go_wp2_with fail
  refine (HR _ _ _ M4.out N4.out).out.mono ?_; rintro e w5 ⟨⟨v5, rfl, hv5⟩, hb5⟩
  have y5 := hid (bnext y4.out hb5); have N5 := hid hv5; clear hb5
  obtain ⟨N, D, rfl, -, -⟩ := hv5.ex
  clear hv5
  go_wp2_with fail
  refine (HW _ _ N5.out).out.mono ?_; rintro e w6 ⟨rfl, hb6⟩
  have y6 := hid (bnext y5.out hb6); clear hb6
  go_wp2_with fail
  go_ret2
  exact ⟨rfl, y6.out⟩
end Go.Proofs.YtjgcjjbnnlnilaaGreatDoor

/- append onto a slice of the call's own: the elements that were there stay readable where they lay. No walk. -/
namespace Go.Proofs.YtjgcjjbnnlnilaaGreatDoor
open Go.RowKit
set_option linter.unusedVariables false

theorem run_append_keep {P : Program} (w : World) (base : Nat) (t ty e : TypeId) (i : TypeInfo) (z : Value) (size bytes : Nat) (ht : P.underlying t = some (.slice e)) (hi : P.info? e = some i) (hz : i.zero = some z)
    (hsize : i.size = size) (hby : i.bytes = bytes) (hzs : z.cells.size = size) (hsz : 0 < size) (v : Value) (n : Nat) (xs : List Value) (hown : w.ownsRow base e size v n xs)
    (a : Addr) (m c : Nat) (news : List Value) (hl : news.length = m * size) (hnews : ∀ j u, news[j]? = some u → w.cell? (a.add j) = some u) (h1 : ∀ u ∈ news, u.oneCell' = true)
    (h63 : n + m ≤ maxLen) (hbytes : (n + m) * bytes ≤ 140737488355328) (hbase : base ≤ w.heap.size) :
    ∃ v' w', (Builtin.append_ #[t, t] ty #[v, .slice (some a) m c]).run P w = .ok v' w' ∧ w'.ownsRow base e size v' (n + m) (xs ++ news) ∧ w.grownBy w' v.ownBlock ∧
      (v'.ownBlock = v.ownBlock ∨ v'.ownBlock = some w.heap.size) ∧ ∀ g c', v = .slice (some ⟨g, 0, none⟩) n c' → ∀ j, j < n * size → w'.cell? ⟨g, j, none⟩ = w.cell? ⟨g, j, none⟩ := by
  obtain ⟨v', w', hr, k1, k2, -, k4⟩ := run_append_own_at (P := P) w base t ty e i z size bytes ht hi hz hsize hby hzs hsz v n xs hown a m c news hl hnews h1 h63 hbytes hbase
  refine ⟨v', w', hr, k1, k2, k4, ?_⟩
  rintro g c' rfl j hj
  subst hsize
  subst hby
  rcases hown.2 with ⟨q, _⟩ | ⟨g', cap, cur, q, hbg, hg, hnc, hcm, hcs, htake⟩
  · cases q
  · simp only [Value.slice.injEq, Option.some.injEq, Addr.mk.injEq] at q
    obtain ⟨⟨rfl, -, -⟩, -, rfl⟩ := q
    have hsmall : n + m ≤ 9223372036854775807 := by simp only [maxLen] at h63; omega
    by_cases hroom : n + m ≤ c'
    · have hfit : n * i.size + news.length ≤ cur.size := by rw [hl, hcs, ← Nat.add_mul]; exact Nat.mul_le_mul_right _ hroom
      have hr2 := run_append_room (P := P) w t ty e i ht hi g n c' cur hg a m c news hl hnews h1 hroom hfit
      rw [hr] at hr2
      injection hr2 with q1 q2
      rw [q2, cell_of_row _ g j _ e (0, 0) (setRow_heap w g cur _ e _ hg), cell_of_row w g j cur e (0, 0) hg]
      have hlt : j < (cur.toList.take (n * i.size)).length := by rw [List.length_take, Array.length_toList]; omega
      rw [List.getElem?_toArray, List.append_assoc, List.getElem?_append_left hlt, List.getElem?_take, if_pos hj, Array.getElem?_toList]
    · have holds : ∀ j u, xs[j]? = some u → w.cell? ((⟨g, 0, none⟩ : Addr).add j) = some u := hown.cells (g := g) rfl
      have hr2 := run_append_grow (P := P) w t ty e i z ht hi hz ⟨g, 0, none⟩ n c' xs hown.1 holds a m c news hl hnews (by omega) (by omega) (growslice_fits (by omega) hbytes)
      rw [hr] at hr2
      injection hr2 with q1 q2
      rw [q2]
      exact World.cell?_of_block (heap_alloc_old w.drew _ (Array.getElem?_eq_some_iff.1 hg).1)

/-- At a step of a region that draws its order. -/
theorem step_append_keep {P : Program} (w : World) {ops : Array Oper} {o : Oper} {a : Act} {K : Act → World → Prop} {Q : Exit → Act → World → Prop} {E : Prop} (hgd : o.guard = none) (s x : Operand) (t : TypeId)
    (ho : o.op = .call { callee := .builtin .append, args := #[s, x], argTypes := #[t, t] })
    (base : Nat) (e : TypeId) (i : TypeInfo) (z : Value) (size bytes : Nat) (ht : P.underlying t = some (.slice e)) (hi : P.info? e = some i) (hz : i.zero = some z)
    (hsize : i.size = size) (hby : i.bytes = bytes) (hzs : z.cells.size = size) (hsz : 0 < size)
    (v : Value) (n : Nat) (xs : List Value) (hs : a.eval s = v) (hown : w.ownsRow base e size v n xs)
    (ad : Addr) (m c : Nat) (news : List Value) (hx : a.eval x = .slice (some ad) m c) (hl : news.length = m * size) (hnews : ∀ j u, news[j]? = some u → w.cell? (ad.add j) = some u) (h1 : ∀ u ∈ news, u.oneCell' = true)
    (h63 : n + m ≤ maxLen) (hbytes : (n + m) * bytes ≤ 140737488355328) (hbase : base ≤ w.heap.size)
    (h : ∀ v' w', w'.ownsRow base e size v' (n + m) (xs ++ news) → w.grownBy w' v.ownBlock → (v'.ownBlock = v.ownBlock ∨ v'.ownBlock = some w.heap.size) → (∀ g c', v = .slice (some ⟨g, 0, none⟩) n c' → ∀ j, j < n * size → w'.cell? ⟨g, j, none⟩ = w.cell? ⟨g, j, none⟩) → K (a.put o.dst v') w') :
    if Region.wanted o (yielded ops a.tmps) = true then Oper.wp P o a w K Q else E := by
  have hw : Region.wanted o (yielded ops a.tmps) = true := by simp [Region.wanted, hgd]
  rw [if_pos hw]
  obtain ⟨v', w', hr, h2, h3, h4, h5⟩ := run_append_keep (P := P) w base t o.type e i z size bytes ht hi hz hsize hby hzs hsz v n xs hown ad m c news hl hnews h1 h63 hbytes hbase
  unfold Oper.wp execOp
  simp only [ho, resolve, invoke, builtin, Sem.run_bind, Sem.run_pure, Result.andThen_ok, List.map_toArray, List.map_cons, List.map_nil, hs, hx, hr]
  exact h v' w' h2 h3 h4 h5
end Go.Proofs.YtjgcjjbnnlnilaaGreatDoor

/- Walks: ref05.Sums: a slice of numbers that grows. -/
namespace Go.Proofs.YtjgcjjbnnlnilaaGreatDoor
open Go.RowKit Go.Shelf
open Go.Lib (decDigits nDigits)
set_option linter.unusedVariables false
set_option linter.unusedSimpArgs false

/-- The number at x does not lie in o's block. -/
def Ap (x o : Value) (n : Nat) : Prop := n = 0 ∨ ∀ g, x.ownBlock = some g → o.ownBlock ≠ some g

theorem isN_lt {k : IntKind} {w : World} {v : Value} {n g : Nat} (h : IsN k w v n) (h0 : n ≠ 0) (hg : v.ownBlock = some g) : g < w.heap.size := by
  obtain ⟨a, c, rfl, h1, h2, h3⟩ := h.openI
  have hl : 0 < (limbs n).length := by
    rw [limbs_pos (by omega)]; simp
  obtain ⟨g', o, rfl, hg', hc⟩ := h3 0 _ (List.getElem?_eq_getElem hl)
  simp only [Value.ownBlock, Option.some.injEq] at hg
  omega

theorem isN_grown {k : IntKind} {w w' : World} {row : Option Nat} {v : Value} {n : Nat} (h : IsN k w v n) (hg : w.grownBy w' row) (hne : n = 0 ∨ ∀ g, v.ownBlock = some g → row ≠ some g) : IsN k w' v n := by
  obtain ⟨a, c, rfl, h1, h2, h3⟩ := h.ex
  rw [ints_length] at *
  refine ⟨a, c, by rw [ints_length], by rw [ints_length]; exact h1, h2, fun i x hx => ?_⟩
  obtain ⟨g, o, rfl, hg', hc⟩ := h3 i x hx
  rcases hne with rfl | hne
  · rw [limbs_zero] at hx; simp [ints] at hx
  · exact ⟨g, o, rfl, Nat.lt_of_lt_of_le hg' hg.size, hg.cell hc (fun e => hne g rfl e.symm)⟩

theorem below_grown {w w' : World} (h : Below w.heap.size w w') (row : Option Nat) : w.grownBy w' row := ⟨h.os, h.tape, h.output, h.size, fun k hk _ => h.block k hk⟩

/-- A slice of m numbers, that of j holds f j. -/
def NRow (w : World) (v : Value) (m : Nat) (f : Nat → Nat) : Prop := ∃ vs : List Value, vs.length = m ∧ Row w v vs ∧ ∀ j x, vs[j]? = some x → IsN .i64 w x (f j)

theorem NRow.call {w w' : World} {v : Value} {m : Nat} {f : Nat → Nat} (h : NRow w v m f) (hb : Below w.heap.size w w') : NRow w' v m f := by
  obtain ⟨vs, h1, h2, h3⟩ := h
  exact ⟨vs, h1, h2.call hb, fun j x hx => (h3 j x hx).call hb⟩
theorem NRow.open {w : World} {v : Value} {m : Nat} {f : Nat → Nat} (h : NRow w v m f) : ∃ a c, v = .slice a m c ∧ m ≤ c ∧ c ≤ 9223372036854775807 ∧ ∀ i, i < m → ∃ g o x, a = some ⟨g, o, none⟩ ∧ g < w.heap.size ∧ w.cell? ⟨g, o + i, none⟩ = some x ∧ IsN .i64 w x (f i) := by
  obtain ⟨vs, rfl, h2, h3⟩ := h
  obtain ⟨a, c, rfl, k1, k2, k3⟩ := h2.ex
  refine ⟨a, c, rfl, k1, by unfold maxLen at k2; omega, fun i hi => ?_⟩
  obtain ⟨x, hx⟩ : ∃ x, vs[i]? = some x := ⟨_, List.getElem?_eq_getElem hi⟩
  obtain ⟨g, o, e, q1, q2⟩ := k3 i x hx
  exact ⟨g, o, x, e, q1, q2, h3 i x hx⟩

/-- The same, of the call's own, to be appended to. -/
def NOwn (B : Nat) (w : World) (v : Value) (m : Nat) (f : Nat → Nat) : Prop := ∃ vs : List Value, w.ownsRow B 77 1 v m vs ∧ ∀ j x, vs[j]? = some x → IsN .i64 w x (f j) ∧ Ap x v (f j)

theorem NOwn.row {B : Nat} {w : World} {v : Value} {m : Nat} {f : Nat → Nat} (h : NOwn B w v m f) : NRow w v m f := by
  obtain ⟨vs, h1, h2⟩ := h
  exact ⟨vs, by have := h1.1; omega, Row.of_owns h1, fun j x hx => (h2 j x hx).1⟩
theorem NOwn.call {B : Nat} {w w' : World} {v : Value} {m : Nat} {f : Nat → Nat} (h : NOwn B w v m f) (hb : Below w.heap.size w w') : NOwn B w' v m f := by
  obtain ⟨vs, h1, h2⟩ := h
  exact ⟨vs, h1.kept (below_grown hb none) (by cases hv : v.ownBlock <;> simp), fun j x hx => ⟨(h2 j x hx).1.call hb, (h2 j x hx).2⟩⟩
theorem NOwn.nil (B : Nat) (w : World) (f : Nat → Nat) : NOwn B w (.slice none 0 0) 0 f := ⟨[], World.ownsRow_nil _ _ _ _, fun j x hx => by simp at hx⟩

/-- An append of one number of its own block. -/
theorem NOwn.next {B B' : Nat} {w w1 w3 : World} {v v3 x : Value} {m : Nat} {f : Nat → Nat} {o : Obj} {vs : List Value} (k1 : w.ownsRow B 77 1 v m vs) (k2 : ∀ j x, vs[j]? = some x → IsN .i64 w x (f j) ∧ Ap x v (f j)) (hb : Below w.heap.size w w1) (hx : IsN .i64 w1 x (f m)) (hB' : w.heap.size ≤ B') (hf : ∀ g, x.ownBlock = some g → B' ≤ g)
    (h3 : w3.ownsRow B 77 1 v3 (m + 1) (vs ++ [x])) (hg : (w1.alloc o).grownBy w3 v.ownBlock) (hat : v3.ownBlock = v.ownBlock ∨ v3.ownBlock = some (w1.alloc o).heap.size) : NOwn B w3 v3 (m + 1) f := by
  have c1 : (w1.alloc o).ownsRow B 77 1 v m vs := (k1.kept (below_grown hb none) (by cases hv : v.ownBlock <;> simp)).alloc o
  have hs : w1.heap.size ≤ (w1.alloc o).heap.size := by simp
  have hal : Below w1.heap.size w1 (w1.alloc o) := (Below.refl _ _).alloc (Nat.le_refl _) o
  refine ⟨vs ++ [x], h3, fun j y hy => ?_⟩
  have hl : vs.length = m := by have := k1.1; omega
  have key : IsN .i64 w1 y (f j) ∧ Ap y v (f j) := by
    by_cases hj : j < vs.length
    · rw [List.getElem?_append_left hj] at hy
      exact ⟨(k2 j y hy).1.call hb, (k2 j y hy).2⟩
    · rw [List.getElem?_append_right (by omega)] at hy
      have hj' : j - vs.length = 0 := by
        rcases Nat.eq_zero_or_pos (j - vs.length) with h | h
        · exact h
        · rw [List.getElem?_eq_none (by simp; omega)] at hy; cases hy
      rw [hj'] at hy
      obtain rfl : j = m := by omega
      simp at hy
      subst hy
      refine ⟨hx, .inr fun g hg' e => ?_⟩
      have := hf g hg'
      have := (k1.lt g e).2
      omega
  obtain ⟨q1, q2⟩ := key
  have q3 : IsN .i64 (w1.alloc o) y (f j) := q1.call hal
  refine ⟨isN_grown q3 hg q2, ?_⟩
  by_cases h0 : f j = 0
  · exact .inl h0
  · refine .inr fun g hg' => ?_
    rcases q2 with e | q2
    · exact absurd e h0
    · rcases hat with e | e
      · rw [e]; exact q2 g hg'
      · rw [e]
        intro e'
        injection e' with e'
        have := isN_lt q3 h0 hg'
        omega

theorem info_tl : (Tryz.prog.info? 77).map (fun i => (i.zero, i.size, i.bytes)) = some (some (.slice none 0 0), 1, 24) := by kernel_rfl

set_option maxRecDepth 100000 in
set_option maxHeartbeats 2000000 in
theorem r5_Sums (w : World) (v : Value) (ws : List Nat) (hws : WsOk ws) (hv : Row w v (strs (ws.map numB))) :
    Calls Tryz.prog 78 #[v] w fun e w' => (∃ u, e = .returned u ∧ NRow w' u (ws.length + 1) (pre ws)) ∧ Below w.heap.size w w' := by
  obtain ⟨i0, hi, hz0, hz1, hz2⟩ := info_parts info_tl
  have HV := hid hv; have HWS := hid hws
  obtain ⟨a, c, rfl, q1, q2, -⟩ := hv.openS
  obtain ⟨N, hN⟩ : ∃ N, (ws.map numB).length = N := ⟨_, rfl⟩
  have HN := hid (show ws.length = N from by rw [← hN]; simp)
  have hN64 : N ≤ 64 := by rw [← HN.out]; exact hws.len
  rw [hN] at HV q1
  rw [hN, HN.out]
  clear hv hws hN
  have hR0 := hid (r1_Read_num w 0 (Nat.le_trans (nDigits_le (k := 1) (by omega) (by omega)) (by omega)))
  rw [numB_zero] at hR0
  go_enter Tryz.func78, Tryz.ntmps78
  go_wp2_with fail
  refine hR0.out.mono ?_; rintro e w1 ⟨⟨v1, rfl, hv1⟩, hb1⟩
  obtain ⟨a1, c1, rfl, -, -, -⟩ := hv1.openI
  rw [show (limbs 0).length = 0 from by rw [limbs_zero]; rfl] at hv1 ⊢
  have V1 := hid hv1; have B1 := hid hb1
  clear hv1 hb1 hR0
  go_wp2_with fail
  go_loopw [3, 4] (fun o ii wr => ∃ i : Nat, ii = .int .i64 i ∧ i ≤ N ∧ Hid (NOwn w.heap.size wr o (i + 1) (pre ws)) ∧ Hid (Below w.heap.size w wr)) (fun o ii wr => N - (intOf ii).toNat)
  case atStart =>
    refine ⟨0, rfl, Nat.zero_le _, ?_, ?_⟩
    · have hx : ∀ j x, [Value.slice a1 0 c1][j]? = some x → IsN .i64 w1 x (pre ws j) ∧ Ap x (.slice (some ⟨w1.heap.size, 0, none⟩) 1 1) (pre ws j) := fun j x hx => by
        match j, hx with
        | 0, hx => simp at hx; subst hx; exact ⟨by rw [pre_zero]; exact V1.out, .inl (pre_zero ws)⟩
      refine ⟨_, ?_, fun j x h => ⟨((hx j x h).1).call ((Below.refl _ _).alloc (Nat.le_refl _) _), (hx j x h).2⟩⟩
      exact ⟨rfl, .inr ⟨w1.heap.size, 1, #[_], rfl, B1.out.size, heap_alloc_new w1 _, Nat.le_refl _, by unfold maxLen; omega, rfl, rfl⟩⟩
    · exact B1.out.alloc B1.out.size _
  case round =>
    obtain ⟨i, rfl, hi', hO, hB⟩ := hrel
    obtain ⟨vs, HO0, HO1⟩ := id hO.out
    obtain ⟨G, cap, rfl, hGB, hGlt⟩ := HO0.form (Nat.succ_pos i)
    by_cases hlt : i < N
    · obtain ⟨x, hx⟩ : ∃ x, ws[i]? = some x := ⟨_, List.getElem?_eq_getElem (by rw [HN.out]; exact hlt)⟩
      obtain ⟨g, og, rfl, hg, hc⟩ := HV.out.at (strs_get (show (ws.map numB)[i]? = some (numB x) by rw [List.getElem?_map, hx]; rfl))
      obtain ⟨y, hy⟩ : ∃ y, vs[i]? = some y := ⟨_, List.getElem?_eq_getElem (by have := HO0.1; omega)⟩
      have hcy := HO0.cells (g := G) rfl i y hy
      rw [Addr.add_lit, Nat.zero_add] at hcy
      have HX := hid hx; have HY := hid (HO1 i y hy).1; have HO9 := hid HO1; have HOO := hid HO0
      have hR := fun W => hid (r1_Read_num W x (by have := HWS.out.dig x (List.mem_of_getElem? HX.out); omega))
      have b1 : (0 : Int) ≤ (i : Int) := by omega
      have b2 : (i : Int) < (N : Int) := by omega
      have b3 : (i : Int) < ((i + 1 : Nat) : Int) := by omega
      have b4 : (i : Int) < (i : Int) + 1 := by omega
      have wi : IntKind.i64.wrap ((i : Int) + 1) = ((i + 1 : Nat) : Int) := by rw [IntWalk.i64_in _ ⟨by omega, by omega⟩]; omega
      have LP : Hid ((limbs (pre ws i)).length ≤ 1000000) := num_limbs (by have := HWS.out.pre i; omega)
      have LX : Hid ((limbs x).length ≤ 1000000) := num_limbs (by have := HWS.out.dig x (List.mem_of_getElem? HX.out); omega)
      obtain ⟨X0, hX0⟩ : ∃ s, numB x = s := ⟨_, rfl⟩
      rw [hX0] at hR hc
      have KK : Hid (∀ w', Below wr.heap.size wr w' → w'.cell? ⟨G, i, none⟩ = some y ∧ w'.cell? ⟨g, og + i, none⟩ = some (.string X0)) := fun w' hb =>
        ⟨(hb.cell (p := ⟨G, i, none⟩) hGlt).trans hcy, (hb.cell (p := ⟨g, og + i, none⟩) (by have := hB.out.size; show g < _; omega)).trans ((hB.out.cell (p := ⟨g, og + i, none⟩) hg).trans hc)⟩
      have HG := hid (show g ≠ G from by omega)
      clear hx hy hc hcy HO0 HO1 hX0
      go_wp2_with fail
      go_region_held3 (fun w' => w'.cell? ⟨G, i, none⟩ = some y ∧ w'.cell? ⟨g, og + i, none⟩ = some (.string X0))
        (first
          | exact KK.out _ (Below.refl _ _).drew
          | exact KEEP.out
          | exact KK.out _ (B4.out.alloc B4.out.size _)
          | exact KK.out _ B4.out
          | exact KK.out _ B2.out)
        (first
          | (go_at_call 55; refine (hR _).out.mono ?_; rintro e w2 ⟨⟨v2, rfl, hv2⟩, hb2⟩; have V2 := hid hv2; have B2 := hid (show Below wr.heap.size wr w2 from (Below.refl _ _).drew.trans hb2); clear hv2 hb2)
          | (go_at_call 59; refine (r1_PlusF _ _ _ _ _ (HY.out.call B2.out) V2.out LP.out LX.out).mono ?_; rintro e w4 ⟨⟨v4, rfl, hv4, hf4⟩, hb4⟩; obtain ⟨a4, c4, rfl, -, -, -⟩ := hv4.openI; have V4 := hid hv4; have B4 := hid (bnext B2.out hb4); have F4 := hid hf4; clear hv4 hb4 hf4)
          | (refine step_append_keep _ rfl _ _ _ rfl w.heap.size 77 i0 (.slice none 0 0) 1 24 Tryz.underlying102 hi hz0 hz1 hz2 rfl (by decide) _ (i + 1) vs rfl ((HOO.out.kept (below_grown B4.out none) (by simp [Value.ownBlock])).alloc _) ⟨w4.heap.size, 0, none⟩ 1 1 [.slice a4 (limbs (pre ws i + x)).length c4] rfl rfl (cell_one_new w4 (.slice a4 (limbs (pre ws i + x)).length c4) 77) (by simp [Value.oneCell']) (by unfold maxLen; omega) (by omega) (by have := hB.out.size; have := B4.out.size; simp; omega) ?_; intro v' w5 hown hgrow hat hkeep; have HO5 := hid hown; have HG5 := hid hgrow; have HA5 := hid hat; have KEEP := hid (show w5.cell? ⟨G, i, none⟩ = some y ∧ w5.cell? ⟨g, og + i, none⟩ = some (.string X0) from ⟨by rw [hkeep G cap rfl i (by omega)]; exact (KK.out _ (B4.out.alloc B4.out.size _)).1, hgrow.cell (KK.out _ (B4.out.alloc B4.out.size _)).2 (by simp only [Value.ownBlock]; intro e; injection e with e; exact HG.out e)⟩); clear hown hgrow hat hkeep))
      have hp : pre ws i + x = pre ws (i + 1) := (pre_succ HX.out).symm
      have N5 := hid (NOwn.next (f := pre ws) HOO.out HO9.out B4.out (by rw [← hp]; exact V4.out) B2.out.size F4.out HO5.out HG5.out HA5.out)
      have B5 : Hid (Below w.heap.size w w5) := by
        have h1 : Below w.heap.size w (w4.alloc (.cells #[.slice a4 (limbs (pre ws i + x)).length c4] 77)) := (hB.out.trans (B4.out.mono hB.out.size)).alloc (hB.out.trans (B4.out.mono hB.out.size)).size _
        refine h1.trans ⟨HG5.out.os, HG5.out.tape, HG5.out.output, HG5.out.size, fun j hj => HG5.out.block j (Nat.lt_of_lt_of_le hj h1.size) fun e => ?_⟩
        have e' : j = G := Option.some.inj e
        rw [e'] at hj
        exact absurd hj (by omega)
      clear HO5 HG5 HA5 KEEP
      go_wp2_with fail
      go_roundw
      case rel => exact ⟨i + 1, by go_num, by omega, N5, B5⟩
      case measure => simp [intOf] <;> omega
    · obtain rfl : i = N := by omega
      go_wp2_with fail
      go_ret
      exact ⟨⟨_, rfl, hO.out.row⟩, hB.out⟩
end Go.Proofs.YtjgcjjbnnlnilaaGreatDoor

/- Rows of the call's own: stores, cells; scopes. -/
namespace Go.Proofs.YtjgcjjbnnlnilaaGreatDoor
open Go.RowKit
set_option linter.unusedVariables false
set_option linter.unusedSimpArgs false
attribute [local go_sem] Oper.semAt_some

theorem wpIn_scope {n : Nat} {P : Program} {Q : Exit → Act → World → Prop} {a : Act} {w : World} {c : Code} (h : c.wpIn Fence.wide n P (Exit.noGoto Q) a w) : (Code.scope c).wpIn Fence.wide n P Q a w :=
  wpIn_wide.2 (wp_scope_straight (wpIn_wide.1 h))

theorem info_i64 : (Tryz.prog.info? 3).map (fun i => (i.zero, i.size, i.bytes)) = some (some (.int .i64 0), 1, 8) := by kernel_rfl

theorem owns_one {W : World} {b : Nat} {t : TypeId} {x : Value} (h : Blk W b #[x] t) : W.ownsRow b t 1 (.slice (some ⟨b, 0, none⟩) 1 1) 1 [x] :=
  ⟨rfl, .inr ⟨b, 1, #[x], rfl, Nat.le_refl _, h, Nat.le_refl _, by unfold maxLen; omega, rfl, rfl⟩⟩

/-- A store into a row of the call's own. -/
theorem own_set {W : World} {base : Nat} {e : TypeId} {g n cap : Nat} {xs : List Value} (h : W.ownsRow base e 1 (.slice (some ⟨g, 0, none⟩) n cap) n xs) (i : Nat) (x : Value) : (W.setCell ⟨g, i, none⟩ x).ownsRow base e 1 (.slice (some ⟨g, 0, none⟩) n cap) n (xs.set i x) := by
  rcases h.2 with ⟨e1, _⟩ | ⟨g', cap', cur, e1, hb, hg, h1, h2, h3, h4⟩
  · simp at e1
  · simp at e1
    obtain ⟨rfl, rfl⟩ := e1
    refine ⟨by rw [List.length_set]; exact h.1, .inr ⟨g, cap, cur.setIfInBounds i x, rfl, hb, Blk.set hg i x, h1, h2, by simpa using h3, ?_⟩⟩
    rw [Array.toList_setIfInBounds, List.take_set, h4]

theorem own_slot {W : World} {base : Nat} {e : TypeId} {g n cap : Nat} {xs : List Value} (h : W.ownsRow base e 1 (.slice (some ⟨g, 0, none⟩) n cap) n xs) : base ≤ g ∧ g < W.heap.size ∧ (∀ i, W.frozen? ⟨g, i, none⟩ = false) ∧ (∀ (i : Nat) (x : Value), xs[i]? = some x → W.cell? ⟨g, i, none⟩ = some x) ∧ cap ≤ 9223372036854775807 ∧ n ≤ cap ∧ ∀ (t : TypeId) (cs : Array Value) (b : Nat), t ≠ e → Blk W b cs t → b ≠ g := by
  have hh := h
  rcases h.2 with ⟨e1, _⟩ | ⟨g', cap', cur, e1, hb, hg, h1, h2, h3, h4⟩
  · simp at e1
  · simp at e1
    obtain ⟨rfl, rfl⟩ := e1
    refine ⟨hb, (Array.getElem?_eq_some_iff.1 hg).1, fun i => Blk.free hg i, fun i x hx => ?_, by unfold maxLen at h2; omega, h1, ?_⟩
    · have := hh.cells rfl i x hx
      rw [Addr.add_lit, Nat.zero_add] at this
      exact this
    · rintro t cs b ht hB rfl
      have := (show W.heap[b]? = _ from hB).symm.trans hg
      simp at this
      exact ht this.2
end Go.Proofs.YtjgcjjbnnlnilaaGreatDoor

/- A region that draws its order, outside a round: some operations, picked by their numbers, yield whatever the others do; then the rest. No program in sight. -/
namespace Go.Proofs.YtjgcjjbnnlnilaaGreatDoor
open Go.RowKit
variable {P : Program} {ops : Array Oper} {Q : Exit → Act → World → Prop} {md : Region.Mode}

/-- An operation by its number, for the unifier to read. -/
def opAt : List Oper → Nat → Option Oper
  | [], _ => none
  | o :: _, 0 => some o
  | _ :: l, i + 1 => opAt l i

theorem opAt_get : ∀ (l : List Oper) (i : Nat) (o : Oper), opAt l i = some o → l.toArray[i]? = some o
  | [], _, _, h => by cases h
  | o :: _, 0, _, h => by simpa [opAt] using h
  | _ :: l, i + 1, o, h => by simpa using opAt_get l i o h

/-- The picked operations yield one after the other, in every world that meets S. -/
def wpPick (P : Program) (l : List Oper) (S : World → Prop) (L : Act → Prop) : List Nat → Act → Prop
  | [], a => L a
  | i :: rest, a => ∃ o, opAt l i = some o ∧ ∃ v, YieldsIf P l.toArray S o v a ∧ wpPick P l S L rest (a.put o.dst v)

/-- The picked operations may be taken one after the other. -/
def pickB (md : Region.Mode) (ops : Array Oper) : List Nat → Array Bool → Bool
  | [], _ => true
  | i :: is, listed => (Region.ready md ops listed).contains i && Region.free md ops listed i && pickB md ops is (listed.setIfInBounds i true)

def setL : List Nat → Array Bool → Array Bool
  | [], listed => listed
  | i :: is, listed => setL is (listed.setIfInBounds i true)

theorem held_pick {l : List Oper} {S : World → Prop} (hsel : Region.noSelect l.toArray = true) {g : Nat} {w : World} (hS : S w) : ∀ (is : List Nat) (listed : Array Bool) (a : Act), pickB md l.toArray is listed = true →
    wpPick P l S (fun a' => wpAnyH P md l.toArray (Only Q) S g (setL is listed) a' w) is a → wpAnyH P md l.toArray (Only Q) S (g + is.length) listed a w
  | [], _, _, _, h => h
  | i :: is, listed, a, hB, h => by
    simp only [pickB, Bool.and_eq_true] at hB
    obtain ⟨⟨hr, hf⟩, hB'⟩ := hB
    obtain ⟨o, ho, v, hy, hrest⟩ := h
    have hQ : ∀ c a w, Only Q (.panic c) (Act.put a o.dst v) w → Only Q (.panic c) a w := fun _ _ _ h => h
    exact wpAnyH_take (opAt_get _ _ _ ho) hsel hf hr hQ hy hS (held_pick hsel hS is _ _ hB' hrest)

/-- The region, in the plain walk. -/
theorem held_plain {id : Nat} {a : Act} {w : World} {l : List Oper} (is : List Nat) (g : Nat) (S : World → Prop) (hm : P.follows .mixedOrders = true) (hsel : Region.noSelect l.toArray = true) (hg : g + is.length = l.toArray.size) (hB : pickB .any l.toArray is (Array.replicate l.toArray.size false) = true) (hS : S w.drew)
    (h : wpPick P l S (fun a' => wpAnyH P .any l.toArray (Only Q) S g (setL is (Array.replicate l.toArray.size false)) a' w.drew) is a) : (Code.region id l.toArray true).wp P Q a w := by
  have h2 := held_pick (P := P) (md := .any) (Q := Q) (S := S) hsel (g := g) hS is (Array.replicate l.toArray.size false) a hB h
  rw [hg] at h2
  exact (wpIn_wide (n := 1)).1 (wpIn_region_any hm (any_plain _ _ _ _ (wpAny_of_held (S := S) _ _ _ _ h2)))

/-- More picks, within. -/
theorem held_more {l : List Oper} {S : World → Prop} {is : List Nat} {g fuel : Nat} {listed : Array Bool} {a : Act} {w : World} (hsel : Region.noSelect l.toArray = true) (hf : fuel = g + is.length) (hS : S w) (hB : pickB md l.toArray is listed = true)
    (h : wpPick P l S (fun a' => wpAnyH P md l.toArray (Only Q) S g (setL is listed) a' w) is a) : wpAnyH P md l.toArray (Only Q) S fuel listed a w := by
  rw [hf]
  exact held_pick hsel hS is listed a hB h
end Go.Proofs.YtjgcjjbnnlnilaaGreatDoor

/- A region that draws its order: one of two operations comes up. No program in sight. -/
namespace Go.Proofs.YtjgcjjbnnlnilaaGreatDoor
open Go.RowKit
variable {P : Program} {ops : Array Oper} {Q : Exit → Act → World → Prop} {md : Region.Mode}

/-- An operation that comes up. -/
theorem held_op {S : World → Prop} {i : Nat} {o : Oper} {fuel : Nat} {listed : Array Bool} {a : Act} {w : World} (ho : ops[i]? = some o) (hg : o.guard = none)
    (h : wpList P ops (ThenH P md ops (Only Q) S fuel (listed.setIfInBounds i true)) [o] a w) : wpOp P ops (Only Q) i (fun a' w' => S w' ∧ wpAnyH P md ops (Only Q) S fuel (listed.setIfInBounds i true) a' w') a w := by
  unfold wpOp
  rw [ho]
  have hw : Region.wanted o (yielded ops a.tmps) = true := by simp [Region.wanted, hg]
  simp only [hw, if_true]
  unfold wpList at h
  rw [if_pos hw] at h
  rcases h with h | ⟨_, _, _, h⟩
  · left
    unfold Oper.wp at *
    generalize (execOp a.eval o).run P w = r at *
    cases r with
    | ok m w' =>
      cases m <;> simp only [Oper.upon] at h ⊢
      case value u => exact h
      case skip => exact h
      case defer d => exact h
      case enter f args =>
        refine Calls.mono h fun e w'' he => ?_
        cases e with
        | returned u => exact he
        | panicked c => exact he.elim
        | outgrown => obtain ⟨_, _, hx⟩ := he; exact hx.elim
      case row row args => exact h
    | halt x w' =>
      cases x <;> simp only [Oper.upon] at h ⊢
      case panic u => exact h.elim
  · exact h.elim

/-- One of two comes up: both are to be walked. -/
theorem held_two {S : World → Prop} {i j : Nat} {oi oj : Oper} {fuel : Nat} {listed : Array Bool} {a : Act} {w : World} (hr : Region.ready md ops listed = [i, j]) (hi : ops[i]? = some oi) (hj : ops[j]? = some oj) (hgi : oi.guard = none) (hgj : oj.guard = none)
    (h1 : wpList P ops (ThenH P md ops (Only Q) S fuel (listed.setIfInBounds i true)) [oi] a w)
    (h2 : wpList P ops (ThenH P md ops (Only Q) S fuel (listed.setIfInBounds j true)) [oj] a w) : wpAnyH P md ops (Only Q) S (fuel + 1) listed a w := by
  refine wpAnyH_all hr (by simp) fun k hk => ?_
  rcases List.mem_cons.1 hk with rfl | hk
  · exact held_op hi hgi h1
  · obtain rfl : k = j := by simpa using hk
    exact held_op hj hgj h2
end Go.Proofs.YtjgcjjbnnlnilaaGreatDoor

/- Walks: pick.scan, pick.ends. -/
namespace Go.Proofs.YtjgcjjbnnlnilaaGreatDoor
open Go.RowKit Go.Shelf
open Go.Lib (decDigits nDigits)
set_option linter.unusedVariables false
set_option linter.unusedSimpArgs false
attribute [local go_sem] Oper.semAt_some

set_option maxRecDepth 100000 in
set_option maxHeartbeats 1000000 in
theorem p_scan (w : World) (a : Option Addr) (n c : Nat) :
    Calls Tryz.prog 93 #[.slice a n c] w fun e w' => e = .returned (.func (.func 131) #[] #[.pointer (some ⟨w.heap.size, 0, none⟩)]) ∧ w' = w.alloc (.cells #[.slice a n c] 22) := by
  go_enter Tryz.func93, Tryz.ntmps93
  go_wp2_with fail
  go_ret
  exact ⟨rfl, rfl⟩

/-- What the rounds leave alone: below n0, and a block. -/
structure KpE (n0 b1 : Nat) (W W' : World) : Prop where
  size : W.heap.size ≤ W'.heap.size
  rest : n0 ≤ W.heap.size → b1 < W.heap.size → Below n0 W W' ∧ W'.heap[b1]? = W.heap[b1]?
theorem KpE.refl (n0 b1 : Nat) (W : World) : KpE n0 b1 W W := ⟨Nat.le_refl _, fun _ _ => ⟨Below.refl _ _, rfl⟩⟩
theorem KpE.trans {n0 b1 : Nat} {A B C : World} (h : KpE n0 b1 A B) (k : KpE n0 b1 B C) : KpE n0 b1 A C :=
  ⟨Nat.le_trans h.size k.size, fun h1 h2 => by
    obtain ⟨x, y⟩ := h.rest h1 h2
    obtain ⟨x', y'⟩ := k.rest (Nat.le_trans h1 h.size) (Nat.lt_of_lt_of_le h2 h.size)
    exact ⟨x.trans x', y'.trans y⟩⟩
theorem KpE.of_below {n0 b1 : Nat} {W W' : World} (h : Below W.heap.size W W') : KpE n0 b1 W W' := ⟨h.size, fun h1 h2 => ⟨h.mono h1, h.block _ h2⟩⟩
theorem KpE.put {n0 b1 : Nat} {w : World} (h1 : n0 ≤ w.heap.size) (h2 : b1 < w.heap.size) (W : World) (l : Nat) (o o' : Obj) (hl : w.heap.size ≤ l) (h : W.heap[l]? = some o) (hc : o.isCells = false) (hw : o.isWalk = false) : KpE n0 b1 W (W.putObj l o') := by
  have hs : W.heap.size ≤ (W.putObj l o').heap.size := by simp [World.putObj]
  refine ⟨hs, fun _ _ => ⟨?_, ?_⟩⟩
  · exact ⟨rfl, rfl, rfl, hs, fun k hk => World.putObj_heap_other (by omega)⟩
  · exact World.putObj_heap_other (by omega)

theorem info_num : (Tryz.prog.info? 23).map (fun i => (i.zero, i.size, i.bytes)) = some (some (.string ⟨#[]⟩), 1, 16) := by kernel_rfl

/-- The upper ends of the first n intervals. -/
def endL (ws : List Nat) (n : Nat) : List ByteArray := (List.range n).map fun i => numB (pre ws (i + 1))
@[simp] theorem endL_length (ws : List Nat) (n : Nat) : (endL ws n).length = n := by simp [endL]
theorem endL_succ (ws : List Nat) (n : Nat) : endL ws (n + 1) = endL ws n ++ [numB (pre ws (n + 1))] := by
  unfold endL
  rw [List.range_succ, List.map_append]; rfl
theorem endL_get {ws : List Nat} {n i : Nat} (h : i < n) : (endL ws n)[i]? = some (numB (pre ws (i + 1))) := by
  unfold endL
  rw [List.getElem?_map, List.getElem?_range h]; rfl
theorem strs_append (a b : List ByteArray) : strs (a ++ b) = strs a ++ strs b := by simp [strs]

/-- What holds behind some weights. -/
def EndI (B : Nat) (ws : List Nat) (p : List (ByteArray × ByteArray)) (W : World) : Prop := ∃ v, p.length ≤ ws.length ∧ Boxed W B 22 v ∧ W.ownsRow B 23 1 v p.length (strs (endL ws p.length))
theorem EndI.own {B : Nat} {ws : List Nat} {C : Nat} : OwnFrom C (EndI B ws) := by
  rintro s X Y row ⟨v, h1, hv, hr⟩ hg hrow
  refine ⟨v, h1, hv.kept hg (fun e' => ?_), hr.kept hg ?_⟩
  · obtain ⟨-, o, ho, hc⟩ := hrow _ e'.symm
    rw [show X.heap[B]? = _ from hv] at ho; cases ho; cases hc
  · rcases hr.2 with ⟨rfl, _⟩ | ⟨g, cap, cur, rfl, _, hgb, _⟩
    · exact .inl rfl
    · refine .inr fun e' => ?_
      obtain ⟨-, o, ho, hc⟩ := hrow g (by simpa [Value.ownBlock] using e'.symm)
      rw [hgb] at ho; cases ho; cases hc

set_option maxRecDepth 100000 in
set_option maxHeartbeats 4000000 in
theorem p_ends (w : World) (v : Value) (ws : List Nat) (hws : WsOk ws) (hv : Row w v (strs (ws.map numB))) (hL : Lay w) :
    Calls Tryz.prog 40 #[v] w fun e w' => (∃ u, e = .returned u ∧ Row w' u (strs (endL ws ws.length))) ∧ Below w.heap.size w w' := by
  have HL := hid hL; have HV := hid hv; have HWS := hid hws
  obtain ⟨a, c, rfl, q1, q2, -⟩ := hv.openS
  obtain ⟨N, hN⟩ : ∃ N, (ws.map numB).length = N := ⟨_, rfl⟩
  have HN := hid (show ws.length = N from by rw [← hN]; simp)
  rw [hN] at HV q1
  rw [hN]
  clear hL hv hws hN
  refine (callsIn_wide (n := 9)).1 ?_
  refine callsIn_of_wp_marks Tryz.func40 rfl trivial ?_ rfl
  simp only [Tryz.ntmps40, List.size_toArray, List.length_cons, List.length_nil, Nat.reduceAdd, Nat.reduceSub, Array.replicate_succ, Array.replicate_zero, List.push_toArray, List.append_toArray, List.nil_append, List.cons_append]
  gi_wp2_with (refine ⟨trivial, ?_⟩; gi_at_call 93; refine (callsIn_wide.2 (p_scan _ _ _ _)).mono ?_; rintro e w' ⟨rfl, rfl⟩)
  obtain ⟨i0, hi, hz0, hz1, hz2⟩ := info_parts info_num
  obtain ⟨W0, hW0⟩ : ∃ W0, (w.alloc (.cells #[.slice none 0 0] 22)).alloc (.cells #[.slice a N c] 22) = W0 := ⟨_, rfl⟩
  have y0 : Blk W0 w.heap.size #[.slice none 0 0] 22 := by rw [← hW0]; exact (Blk.new w _ _).alloc _
  have y1 : Blk W0 (w.heap.size + 1) #[.slice a N c] 22 := by rw [← hW0]; exact Blk.made _ _ _ (by simp)
  have b0 : Below w.heap.size w W0 := by rw [← hW0]; exact ((Below.refl _ _).alloc (Nat.le_refl _) _).alloc (by simp) _
  have z0 : W0.heap.size = w.heap.size + 1 + 1 := by rw [← hW0]; simp
  rw [hW0]
  have Y0 := hid y0; have Y1 := hid y1; have HB0 := hid b0; have Z0 := hid z0
  clear y0 y1 b0 z0 hW0
  have hread : ∀ W1 W2, Below W0.heap.size W0 W1 → KpE w.heap.size (w.heap.size + 1) W1 W2 → W2.cell? ⟨w.heap.size + 1, 0, none⟩ = some (.slice a N c) ∧ Row W2 (.slice a N c) (strs (ws.map numB)) ∧ Lay W2 := fun W1 W2 b1 b2 => by
    have hs := b1.size
    have hz := Z0.out
    obtain ⟨r1, r2⟩ := b2.rest (by omega) (by omega)
    have g1 : Blk W2 (w.heap.size + 1) #[.slice a N c] 22 := r2.trans (Y1.out.call b1)
    have hb : Below w.heap.size w W2 := (HB0.out.trans (b1.mono (by omega))).trans r1
    exact ⟨g1.cell 0, HV.out.call hb, HL.out.call hb⟩
  refine range_ok (by omega) (gf := 131) (lb := #[.pointer (some ⟨w.heap.size + 1, 0, none⟩)]) rfl (enters_of Tryz.func131 (by kernel_rfl) rfl)
    (scan_feeds (Kp := KpE w.heap.size (w.heap.size + 1)) 8 (by omega) W0 _ _ ws HWS.out (KpE.refl _ _) KpE.trans hread (fun _ _ => KpE.of_below)) KpE.trans (KpE.put (by have := Z0.out; omega) (by have := Z0.out; omega)) (Below.refl _ _) (fun _ => rfl)
    (fun p W => (EndI w.heap.size ws p W ∧ Blk W (w.heap.size + 1) #[.slice a N c] 22) ∧ Below w.heap.size w W)
    (fun c p W => False)
    (OwnFrom.and (fun s X Y row hs hg hr => ⟨EndI.own s X Y row hs.1 hg hr, hs.2.kept hg (fun r e => (hr r e).2)⟩) (ownFrom_below (by have := Z0.out; omega) (by have := Z0.out; omega)))
    (fun c s X Y row hs hg hr => hs)
    ⟨⟨⟨_, Nat.zero_le _, Y0.out, ⟨rfl, .inl ⟨rfl, rfl⟩⟩⟩, Y1.out⟩, HB0.out⟩ ?act ?assign ?body ?done ?stop
  case assign =>
    intro l x W K hK
    gi_wp2
    exact hK
  case body =>
    rintro l p ⟨s, x⟩ W ⟨hd, hs, y, hy, hx⟩ ⟨⟨⟨v, h1, hv, hr⟩, h7⟩, hB⟩
    dsimp only at hs hx
    subst hs hx
    obtain ⟨a3, c3, rfl⟩ := owns_ex hr
    obtain ⟨i, hi'⟩ : ∃ i, p.length = i := ⟨_, rfl⟩
    rw [hi'] at hd hy hv hr ⊢
    have HI := hid hi'
    have c0 := Boxed.cell hv
    have f0 := Boxed.frozen hv
    have n1 := HWS.out.pre i
    have n2 := HWS.out.pre (i + 1)
    have n3 := HWS.out.dig y (List.mem_of_getElem? hy)
    rw [pre_succ hy] at n2
    have PL := fun V hV => hid (pk_plus V (pre ws i) y (by omega) (by omega) (by omega) hV)
    rw [← pre_succ hy] at PL
    have hi3 : i < 64 := by have := HWS.out.len; omega
    obtain ⟨S0, hS0⟩ : ∃ s, numB (pre ws i) = s := ⟨_, rfl⟩
    obtain ⟨X0, hX0⟩ : ∃ s, numB y = s := ⟨_, rfl⟩
    obtain ⟨R0, hR0⟩ : ∃ s, numB (pre ws (i + 1)) = s := ⟨_, rfl⟩
    rw [hS0, hX0, hR0] at PL
    rw [hS0, hX0]
    have HR0 := hid hR0; have HD := hid hd; have HV3 := hid hv; have HR := hid hr; have H7 := hid h7; have HB := hid hB
    have hLay := hid (HL.out.call hB)
    clear hd hy hv hr h7 hB n1 n2 n3 hS0 hX0 hR0 hi' h1
    gi_wp2_with fail
    refine held_round (fun _ => True) (by kernel_rfl) (by kernel_rfl) ?_
    refine held_more (is := [1, 2]) (g := 5) (by kernel_rfl) rfl trivial (by kernel_rfl) ?_
    iterate 2
      refine ⟨_, rfl, ?_⟩
      apply Exists.intro
      refine ⟨.inl ⟨by rfl, ?_⟩, ?_⟩
      · (intro W' hW'; clear hW'; go_simp; try (with_reducible rfl))
      (dsimp only [Act.put]; try simp only [List.setIfInBounds_toArray, List.set_cons_zero, List.set_cons_succ])
    refine held_two (i := 0) (j := 3) (by kernel_rfl) (by rfl) (by rfl) (by rfl) (by rfl) ?_ ?_
    · go_wp2_with fail
      refine ⟨trivial, ?_⟩
      refine held_one (i := 3) (by kernel_rfl) (by rfl) (by rfl) ?_
      go_wp2_with fail
      refine (PL _ (hLay.out.call (Below.refl _ _).drew)).out.mono ?_; rintro e w1 ⟨rfl, hb1⟩
      have y1 := hid (show Below W.heap.size W w1 from (Below.refl _ _).drew.trans hb1)
      have V1 := hid (show Boxed w1 w.heap.size 22 (.slice a3 i c3) from Blk.call (show Blk W w.heap.size #[.slice a3 i c3] 22 from HV3.out) y1.out)
      have R1 := hid (owns_call HR.out y1.out)
      have G7 := hid (H7.out.call y1.out)
      have B1 := hid (HB.out.trans (y1.out.mono HB.out.size))
      have k1 := V1.out.cell
      have k2 := (Boxed.alloc V1.out (.cells #[.string R0] 23)).cell
      clear hb1 c0 f0
      go_wp2_with fail
      refine ⟨trivial, ?_⟩
      refine held_one (i := 4) (by kernel_rfl) (by rfl) (by rfl) ?_
      go_wp2_with fail
      refine ⟨trivial, ?_⟩
      clear k1 k2
      refine held_one (i := 5) (by kernel_rfl) (by rfl) (by rfl) ?_
      refine wpList_append_own _ rfl _ _ 22 rfl w.heap.size 23 i0 (.string ⟨#[]⟩) 1 16 Tryz.underlying22 hi hz0 hz1 hz2 rfl (by decide) _ i _ rfl (R1.out.alloc _) ⟨w1.heap.size, 0, none⟩ 1 1 [.string R0] rfl rfl (cell_one_new w1 (.string R0) 23) (by simp [Value.oneCell']) (by unfold maxLen; omega) (by omega) (by have := B1.out.size; simp; omega) ?_
      intro v' w3 hown3 hgrow3 _
      obtain ⟨g2, cap2, rfl⟩ := ownsRow_succ hown3
      obtain ⟨e1, e2, e3, e4, e5⟩ := Boxed.appended (B := w.heap.size) V1.out (by decide) R1.out (by have := B1.out.size; omega) (Nat.le_refl _) hown3 hgrow3
      have m0 := e1.cell
      have m1 := e1.frozen
      have h8 : Boxed w3 (w.heap.size + 1) 22 (.slice a N c) := Boxed.kept (Boxed.alloc (show Boxed w1 (w.heap.size + 1) 22 (.slice a N c) from G7.out) (.cells #[.string R0] 23)) hgrow3 (Boxed.not_row (show Boxed w1 (w.heap.size + 1) 22 (.slice a N c) from G7.out) (by decide) R1.out)
      have H8 := hid h8; have E2 := hid e2; have E3 := hid e3; have E4 := hid e4; have E5 := hid e5
      clear e1 e2 e3 e4 e5 hown3 hgrow3 h8
      go_wp2_with fail
      refine ⟨trivial, ?_⟩
      refine held_one (i := 6) (by kernel_rfl) (by rfl) (by rfl) ?_
      go_wp2_with fail
      refine ⟨trivial, ?_⟩
      refine wpAnyH_done (by kernel_rfl) ?_ _
      simp only [Only]
      gi_wp2_with fail
      have hk7 : Blk (w3.setCell ⟨w.heap.size, 0, none⟩ (.slice (some ⟨g2, 0, none⟩) (i + 1) cap2)) (w.heap.size + 1) #[.slice a N c] 22 := Blk.other (show Blk w3 (w.heap.size + 1) #[.slice a N c] 22 from H8.out) (by simp) _
      refine ⟨KeepsFrom.trans ⟨y1.out.size, fun k o hk ho hc => (y1.out.block k (Array.getElem?_eq_some_iff.1 ho).1).trans ho⟩ (E4.out.from _), ⟨Nat.le_trans y1.out.size E5.out.size, fun _ _ => ⟨(y1.out.mono HB.out.size).trans E5.out, hk7.trans (Eq.symm H7.out)⟩⟩, ⟨⟨_, ?_, E2.out, ?_⟩, hk7⟩, B1.out.trans E5.out⟩
      · rw [List.length_append, List.length_singleton, HI.out]; exact HD.out
      · rw [List.length_append, List.length_singleton, HI.out, endL_succ, strs_append, HR0.out]; exact E3.out
    · go_wp2_with fail
      refine (PL _ (hLay.out.call (Below.refl _ _).drew)).out.mono ?_; rintro e w1 ⟨rfl, hb1⟩
      have y1 := hid (show Below W.heap.size W w1 from (Below.refl _ _).drew.trans hb1)
      have V1 := hid (show Boxed w1 w.heap.size 22 (.slice a3 i c3) from Blk.call (show Blk W w.heap.size #[.slice a3 i c3] 22 from HV3.out) y1.out)
      have R1 := hid (owns_call HR.out y1.out)
      have G7 := hid (H7.out.call y1.out)
      have B1 := hid (HB.out.trans (y1.out.mono HB.out.size))
      have k1 := V1.out.cell
      have k2 := (Boxed.alloc V1.out (.cells #[.string R0] 23)).cell
      clear hb1 c0 f0
      go_wp2_with fail
      refine ⟨trivial, ?_⟩
      refine held_two (i := 0) (j := 4) (by kernel_rfl) (by rfl) (by rfl) (by rfl) (by rfl) ?_ ?_
      · go_wp2_with fail
        refine ⟨trivial, ?_⟩
        refine held_one (i := 4) (by kernel_rfl) (by rfl) (by rfl) ?_
        go_wp2_with fail
        refine ⟨trivial, ?_⟩
        clear k1 k2
        refine held_one (i := 5) (by kernel_rfl) (by rfl) (by rfl) ?_
        refine wpList_append_own _ rfl _ _ 22 rfl w.heap.size 23 i0 (.string ⟨#[]⟩) 1 16 Tryz.underlying22 hi hz0 hz1 hz2 rfl (by decide) _ i _ rfl (R1.out.alloc _) ⟨w1.heap.size, 0, none⟩ 1 1 [.string R0] rfl rfl (cell_one_new w1 (.string R0) 23) (by simp [Value.oneCell']) (by unfold maxLen; omega) (by omega) (by have := B1.out.size; simp; omega) ?_
        intro v' w3 hown3 hgrow3 _
        obtain ⟨g2, cap2, rfl⟩ := ownsRow_succ hown3
        obtain ⟨e1, e2, e3, e4, e5⟩ := Boxed.appended (B := w.heap.size) V1.out (by decide) R1.out (by have := B1.out.size; omega) (Nat.le_refl _) hown3 hgrow3
        have m0 := e1.cell
        have m1 := e1.frozen
        have h8 : Boxed w3 (w.heap.size + 1) 22 (.slice a N c) := Boxed.kept (Boxed.alloc (show Boxed w1 (w.heap.size + 1) 22 (.slice a N c) from G7.out) (.cells #[.string R0] 23)) hgrow3 (Boxed.not_row (show Boxed w1 (w.heap.size + 1) 22 (.slice a N c) from G7.out) (by decide) R1.out)
        have H8 := hid h8; have E2 := hid e2; have E3 := hid e3; have E4 := hid e4; have E5 := hid e5
        clear e1 e2 e3 e4 e5 hown3 hgrow3 h8
        go_wp2_with fail
        refine ⟨trivial, ?_⟩
        refine held_one (i := 6) (by kernel_rfl) (by rfl) (by rfl) ?_
        go_wp2_with fail
        refine ⟨trivial, ?_⟩
        refine wpAnyH_done (by kernel_rfl) ?_ _
        simp only [Only]
        gi_wp2_with fail
        have hk7 : Blk (w3.setCell ⟨w.heap.size, 0, none⟩ (.slice (some ⟨g2, 0, none⟩) (i + 1) cap2)) (w.heap.size + 1) #[.slice a N c] 22 := Blk.other (show Blk w3 (w.heap.size + 1) #[.slice a N c] 22 from H8.out) (by simp) _
        refine ⟨KeepsFrom.trans ⟨y1.out.size, fun k o hk ho hc => (y1.out.block k (Array.getElem?_eq_some_iff.1 ho).1).trans ho⟩ (E4.out.from _), ⟨Nat.le_trans y1.out.size E5.out.size, fun _ _ => ⟨(y1.out.mono HB.out.size).trans E5.out, hk7.trans (Eq.symm H7.out)⟩⟩, ⟨⟨_, ?_, E2.out, ?_⟩, hk7⟩, B1.out.trans E5.out⟩
        · rw [List.length_append, List.length_singleton, HI.out]; exact HD.out
        · rw [List.length_append, List.length_singleton, HI.out, endL_succ, strs_append, HR0.out]; exact E3.out
      · go_wp2_with fail
        refine ⟨trivial, ?_⟩
        refine held_one (i := 0) (by kernel_rfl) (by rfl) (by rfl) ?_
        go_wp2_with fail
        refine ⟨trivial, ?_⟩
        clear k1 k2
        refine held_one (i := 5) (by kernel_rfl) (by rfl) (by rfl) ?_
        refine wpList_append_own _ rfl _ _ 22 rfl w.heap.size 23 i0 (.string ⟨#[]⟩) 1 16 Tryz.underlying22 hi hz0 hz1 hz2 rfl (by decide) _ i _ rfl (R1.out.alloc _) ⟨w1.heap.size, 0, none⟩ 1 1 [.string R0] rfl rfl (cell_one_new w1 (.string R0) 23) (by simp [Value.oneCell']) (by unfold maxLen; omega) (by omega) (by have := B1.out.size; simp; omega) ?_
        intro v' w3 hown3 hgrow3 _
        obtain ⟨g2, cap2, rfl⟩ := ownsRow_succ hown3
        obtain ⟨e1, e2, e3, e4, e5⟩ := Boxed.appended (B := w.heap.size) V1.out (by decide) R1.out (by have := B1.out.size; omega) (Nat.le_refl _) hown3 hgrow3
        have m0 := e1.cell
        have m1 := e1.frozen
        have h8 : Boxed w3 (w.heap.size + 1) 22 (.slice a N c) := Boxed.kept (Boxed.alloc (show Boxed w1 (w.heap.size + 1) 22 (.slice a N c) from G7.out) (.cells #[.string R0] 23)) hgrow3 (Boxed.not_row (show Boxed w1 (w.heap.size + 1) 22 (.slice a N c) from G7.out) (by decide) R1.out)
        have H8 := hid h8; have E2 := hid e2; have E3 := hid e3; have E4 := hid e4; have E5 := hid e5
        clear e1 e2 e3 e4 e5 hown3 hgrow3 h8
        go_wp2_with fail
        refine ⟨trivial, ?_⟩
        refine held_one (i := 6) (by kernel_rfl) (by rfl) (by rfl) ?_
        go_wp2_with fail
        refine ⟨trivial, ?_⟩
        refine wpAnyH_done (by kernel_rfl) ?_ _
        simp only [Only]
        gi_wp2_with fail
        have hk7 : Blk (w3.setCell ⟨w.heap.size, 0, none⟩ (.slice (some ⟨g2, 0, none⟩) (i + 1) cap2)) (w.heap.size + 1) #[.slice a N c] 22 := Blk.other (show Blk w3 (w.heap.size + 1) #[.slice a N c] 22 from H8.out) (by simp) _
        refine ⟨KeepsFrom.trans ⟨y1.out.size, fun k o hk ho hc => (y1.out.block k (Array.getElem?_eq_some_iff.1 ho).1).trans ho⟩ (E4.out.from _), ⟨Nat.le_trans y1.out.size E5.out.size, fun _ _ => ⟨(y1.out.mono HB.out.size).trans E5.out, hk7.trans (Eq.symm H7.out)⟩⟩, ⟨⟨_, ?_, E2.out, ?_⟩, hk7⟩, B1.out.trans E5.out⟩
        · rw [List.length_append, List.length_singleton, HI.out]; exact HD.out
        · rw [List.length_append, List.length_singleton, HI.out, endL_succ, strs_append, HR0.out]; exact E3.out
  case done =>
    rintro D' xs W hD hS ⟨⟨⟨v, h1, hv, hr⟩, h7⟩, hB⟩ hK
    rw [hS] at hr
    obtain ⟨a3, c3, rfl⟩ := owns_ex hr
    have c0 := Boxed.cell hv
    have hrow : Row (W.putObj D' (.deferred none)) _ (strs (endL ws ws.length)) := Row.put (Row.of_owns hr) hK _
    have HROW := hid hrow; have HB := hid hB; have HK := hid hK; have HDD := hid hD
    clear hS h1 hv hr h7 hB hK hrow hD
    gi_wp2_with fail
    refine marks_end HK.out (v := .slice a3 ws.length c3) (by simp [results, Tryz.results40, go_sem]) ⟨⟨_, rfl, HROW.out⟩, ?_⟩
    exact HB.out.trans (belowK_b (w := w) (Nat.le_refl _) _ D' _ _ (by have := Z0.out; have := HDD.out; omega) HK.out rfl rfl)
  case stop =>
    rintro D' c p W hD - h hK
    exact h.elim
end Go.Proofs.YtjgcjjbnnlnilaaGreatDoor

/- Walks: the test of pick.Draw's search, sort.Search. -/
namespace Go.Proofs.YtjgcjjbnnlnilaaGreatDoor
open Go.RowKit Go.Shelf
open Go.Lib (decDigits nDigits)
set_option linter.unusedVariables false
set_option linter.unusedSimpArgs false

theorem pk_cmp (V : World) (x y : Nat) (hx : nDigits x ≤ 4000) (hy : nDigits y ≤ 4000) : Calls Tryz.prog 46 #[.string (numB x), .string (numB y)] V fun e w' => e = .returned (.int .i64 (ordN x y)) ∧ Below V.heap.size V w' := by
  refine (n_Cmp V _ _ (numB_sz hx) (numB_sz hy)).mono ?_
  rintro e w' ⟨rfl, hb⟩
  exact ⟨by rw [cmpN_num hx hy], hb⟩

theorem ordN_pos {a b : Nat} : decide (ordN a b > 0) = decide (b < a) := by
  unfold ordN
  by_cases h1 : a < b
  · rw [if_pos h1]; simp; omega
  · rw [if_neg h1]
    by_cases h2 : b < a
    · rw [if_pos h2]; simp [h2]
    · rw [if_neg h2]; simp; omega

/-- Weights and a cell whose products can be computed with. -/
structure CellOk (ws : List Nat) (t low : Nat) : Prop where
  t : nDigits t ≤ 100
  ws : nDigits ws.sum ≤ 3802
  low : nDigits low ≤ 3990
theorem CellOk.mul {ws : List Nat} {t low : Nat} (h : CellOk ws t low) (i : Nat) : nDigits (pre ws i * t) ≤ 3902 := nd_mul (nd_pre i h.ws) h.t (by omega)

set_option maxRecDepth 100000 in
set_option maxHeartbeats 2000000 in
theorem p_test (w : World) (bt b2 bl : Nat) (v : Value) (ws : List Nat) (i t low : Nat) (hi : i < ws.length) (hok : CellOk ws t low) (hT : Blk w bt #[v] 22) (hv : Row w v (strs (endL ws ws.length))) (h2 : Blk w b2 #[.string (numB t)] 23) (hl : Blk w bl #[.string (numB low)] 23) (hL : Lay w) (hlen : ws.length ≤ 64) :
    Calls Tryz.prog 45 #[.int .i64 (i : Nat), .pointer (some ⟨bt, 0, none⟩), .pointer (some ⟨b2, 0, none⟩), .pointer (some ⟨bl, 0, none⟩)] w fun e w' => e = .returned (.bool (decide (low < pre ws (i + 1) * t))) ∧ Below w.heap.size w w' := by
  obtain ⟨a, c, rfl, q1, q2, q3⟩ := hv.openS
  rw [endL_length] at hT q1 hv
  obtain ⟨g, o, rfl, hg, hc⟩ := q3 i _ (endL_get hi)
  have PT := fun V hV => hid (pk_times V (pre ws (i + 1)) t (by have := nd_pre (i + 1) hok.ws; omega) (by have := hok.t; omega) (by have := hok.mul (i + 1); omega) hV)
  have PC := fun V => hid (pk_cmp V (pre ws (i + 1) * t) low (by have := hok.mul (i + 1); omega) (by have := hok.low; omega))
  obtain ⟨E0, hE0⟩ : ∃ s, numB (pre ws (i + 1)) = s := ⟨_, rfl⟩
  obtain ⟨T0, hT0⟩ : ∃ s, numB t = s := ⟨_, rfl⟩
  obtain ⟨M0, hM0⟩ : ∃ s, numB (pre ws (i + 1) * t) = s := ⟨_, rfl⟩
  obtain ⟨L0, hL0⟩ : ∃ s, numB low = s := ⟨_, rfl⟩
  obtain ⟨z, hz⟩ : ∃ z, ordN (pre ws (i + 1) * t) low = z := ⟨_, rfl⟩
  have hzz := hid (show decide (z > 0) = decide (low < pre ws (i + 1) * t) from by rw [← hz]; exact ordN_pos)
  rw [hE0, hT0, hM0] at PT
  rw [hM0, hL0, hz] at PC
  rw [hE0] at hc
  rw [hT0] at h2
  rw [hL0] at hl
  have KK : Hid (∀ w', Below w.heap.size w w' → w'.cell? ⟨bt, 0, none⟩ = some (.slice (some ⟨g, o, none⟩) ws.length c) ∧ w'.cell? ⟨g, o + i, none⟩ = some (.string E0) ∧ w'.cell? ⟨b2, 0, none⟩ = some (.string T0) ∧ w'.cell? ⟨bl, 0, none⟩ = some (.string L0)) := fun w' hb =>
    ⟨(hT.call hb).cell 0, (hb.cell hg).trans hc, (h2.call hb).cell 0, (hl.call hb).cell 0⟩
  have HL := hid hL
  have b1 : (0 : Int) ≤ (i : Int) := by omega
  obtain ⟨n, hn⟩ : ∃ n, ws.length = n := ⟨_, rfl⟩
  rw [hn] at KK q1 hi hlen
  have b2' : (i : Int) < (n : Int) := by omega
  rw [← hzz.out]
  clear hT hv h2 hl hL q3 hc hE0 hT0 hM0 hL0 hz hzz hok hn hi hg
  go_enter Tryz.func45, Tryz.ntmps45
  go_wp2_with fail
  refine held_plain [0, 1, 2, 3, 4, 6] 4 (fun w' => w'.cell? ⟨bt, 0, none⟩ = some (.slice (some ⟨g, o, none⟩) n c) ∧ w'.cell? ⟨g, o + i, none⟩ = some (.string E0) ∧ w'.cell? ⟨b2, 0, none⟩ = some (.string T0) ∧ w'.cell? ⟨bl, 0, none⟩ = some (.string L0)) (by kernel_rfl) (by kernel_rfl) (by kernel_rfl) (by kernel_rfl) (KK.out _ (Below.refl _ _).drew) ?_
  iterate 6
    refine ⟨_, rfl, ?_⟩
    apply Exists.intro
    refine ⟨.inl ⟨by rfl, ?_⟩, ?_⟩
    · (intro W' hW'; obtain ⟨q1, q2, q3, q4⟩ := hW'; go_simp; try (with_reducible rfl))
    (dsimp only [Act.put]; try simp only [List.setIfInBounds_toArray, List.set_cons_zero, List.set_cons_succ])
  refine held_one (i := 5) (by kernel_rfl) (by rfl) (by rfl) ?_
  go_wp2_with fail
  refine (PT _ (HL.out.call (Below.refl _ _).drew)).out.mono ?_; rintro e w1 ⟨rfl, hb1⟩
  have y1 := hid (show Below w.heap.size w w1 from (Below.refl _ _).drew.trans hb1)
  clear hb1
  go_wp2_with fail
  refine ⟨KK.out _ y1.out, ?_⟩
  refine held_one (i := 7) (by kernel_rfl) (by rfl) (by rfl) ?_
  go_wp2_with fail
  refine (PC _).out.mono ?_; rintro e w2 ⟨rfl, hb2⟩
  have y2 := hid (bnext y1.out hb2)
  clear hb2
  go_wp2_with fail
  refine ⟨KK.out _ y2.out, ?_⟩
  refine held_more (is := [8, 9]) (g := 0) (by kernel_rfl) rfl (KK.out _ y2.out) (by kernel_rfl) ?_
  iterate 2
    refine ⟨_, rfl, ?_⟩
    apply Exists.intro
    refine ⟨.inl ⟨by rfl, ?_⟩, ?_⟩
    · (intro W' hW'; obtain ⟨q1, q2, q3, q4⟩ := hW'; go_simp; try (with_reducible rfl))
    (dsimp only [Act.put]; try simp only [List.setIfInBounds_toArray, List.set_cons_zero, List.set_cons_succ])
  refine wpAnyH_done (by kernel_rfl) ?_ _
  simp only [Only]
  go_wp2_with fail
  go_ret
  exact ⟨rfl, y2.out⟩

/-- A test that may be searched by, in every later world. -/
def SrOk (F : Nat) (cs : Array Value) (p : Nat → Bool) (n : Nat) (w : World) : Prop :=
  ∀ (W : World) (i : Nat), Below w.heap.size w W → i < n → Calls Tryz.prog F (#[.int .i64 (i : Nat)] ++ cs) W fun e w' => e = .returned (.bool (p i)) ∧ Below W.heap.size W w'

set_option maxRecDepth 100000 in
set_option maxHeartbeats 2000000 in
theorem s_Search (w : World) (n F : Nat) (cs : Array Value) (p : Nat → Bool) (hn : n ≤ 1000000) (hen : ∀ args w, (callFunc F args).run Tryz.prog w = .ok (.enter F args) w) (hF : SrOk F cs p n w) (hm : ∀ x y, x ≤ y → y < n → p x = true → p y = true) :
    Calls Tryz.prog 44 #[.int .i64 (n : Nat), .func (.func F) #[] cs] w fun e w' => e = .returned (.int .i64 (fstI p n : Nat)) ∧ Below w.heap.size w w' := by
  have HF := fun W i h1 h2 => hid (hF W i h1 h2)
  have HM := hid hm
  have B0 := hid (Below.refl w.heap.size w)
  clear hF hm
  go_enter Tryz.func44, Tryz.ntmps44
  go_wp2_with fail
  go_loopw [5, 6] (fun ii jj wr => ∃ i j : Nat, ii = .int .i64 (i : Nat) ∧ jj = .int .i64 (j : Nat) ∧ i ≤ j ∧ j ≤ n ∧ Hid (∀ x, x < i → p x = false) ∧ Hid (j < n → p j = true) ∧ Hid (Below w.heap.size w wr)) (fun ii jj wr => (intOf jj).toNat - (intOf ii).toNat)
  case atStart => exact ⟨0, n, rfl, rfl, Nat.zero_le _, Nat.le_refl _, fun x hx => absurd hx (by omega), fun h => absurd h (by omega), B0.out⟩
  case round =>
    obtain ⟨i, j, rfl, rfl, hij, hjn, hI, hJ, hB⟩ := hrel
    by_cases hlt : i < j
    · have f1 : (i : Int) < (j : Int) := by omega
      obtain ⟨h, hh⟩ : ∃ h, (i + j) / 2 = h := ⟨_, rfl⟩
      have hh1 : i ≤ h := by omega
      have hh2 : h < j := by omega
      have e1 : IntKind.i64.wrap ((i : Int) + (j : Int)) = (i : Int) + (j : Int) := by rw [IntWalk.i64_in _ ⟨by omega, by omega⟩]
      have e2 : ((i : Int) + (j : Int)) / 2 = (h : Int) := by omega
      have e3 : IntKind.i64.wrap ((h : Int) + 1) = ((h + 1 : Nat) : Int) := by rw [IntWalk.i64_in _ ⟨by omega, by omega⟩]; omega
      obtain ⟨z, hz⟩ : ∃ z, p h = z := ⟨_, rfl⟩
      have HZ := hid hz
      have C := HF wr h hB.out (by omega)
      rw [hz] at C
      have E1 := hid e1; have E3 := hid e3
      clear hz hh e3
      go_wp2_with fail
      refine C.out.mono ?_; rintro e w1 ⟨rfl, hb1⟩
      have y1 := hid (bnext hB.out hb1)
      clear hb1
      have e3 := E3.out
      cases z
      · go_wp2_with fail
        go_roundw
        case rel => exact ⟨h + 1, j, rfl, rfl, by omega, by omega, fun x hx => by
          have := HM.out x h (by omega) (by omega)
          cases hc : p x
          · rfl
          · rw [this hc] at HZ; exact absurd HZ.out (by simp), hJ, y1⟩
        case measure => simp [intOf] <;> omega
      · go_wp2_with fail
        go_roundw
        case rel => exact ⟨i, h, rfl, rfl, by omega, by omega, hI, fun _ => HZ.out, y1⟩
        case measure => simp [intOf] <;> omega
    · obtain rfl : i = j := by omega
      have q0 : decide ((i : Int) < (i : Int)) = false := by simp
      clear hlt hij
      go_wp2_with fail
      go_ret
      refine ⟨?_, hB.out⟩
      rw [fstI_eq hjn hI.out hJ.out]
      rfl
end Go.Proofs.YtjgcjjbnnlnilaaGreatDoor

/- Walks: the function that pick.Draw hands over. -/
namespace Go.Proofs.YtjgcjjbnnlnilaaGreatDoor
open Go.RowKit Go.Shelf
open Go.Lib (decDigits nDigits)
set_option linter.unusedVariables false
set_option linter.unusedSimpArgs false

theorem pk_le {a b : Nat} : decide (ordN a b ≤ 0) = decide (a ≤ b) := by
  unfold ordN
  split
  · simp; omega
  · split <;> simp <;> omega

set_option maxRecDepth 100000 in
set_option maxHeartbeats 4000000 in
theorem p_dec (w0 : World) (ba bt : Nat) (v : Value) (ws : List Nat) (hA : Blk w0 ba #[.string (numB ws.sum)] 23) (hT : Blk w0 bt #[v] 22) (hv : Row w0 v (strs (endL ws ws.length))) (hws : WsOk ws) (hL : Lay w0) :
    DecOk 42 #[.pointer (some ⟨ba, 0, none⟩), .pointer (some ⟨bt, 0, none⟩)] (pkF ws) w0 := by
  intro w k u hw hk hu
  obtain ⟨a, c, rfl, q1, q2, -⟩ := hv.openS
  rw [endL_length] at hT q1 hv
  obtain ⟨t, ht⟩ : ∃ t, 2 ^ u = t := ⟨_, rfl⟩
  have t1 := two_nd (u := u) (by omega)
  rw [ht] at hk t1 ⊢
  have HA := hid (hA.call hw); have HT := hid (hT.call hw); have HV := hid (hv.call hw); have HL := hid (hL.call hw); have HWS := hid hws
  have nk : nDigits k ≤ 100 := Nat.le_trans (nDigits_mono (Nat.le_of_lt hk)) t1
  have ns := hws.sum
  have nl : nDigits (k * ws.sum) ≤ 3902 := by have := nd_mul nk ns (by omega); omega
  have OK := hid (CellOk.mk (ws := ws) (t := t) (low := k * ws.sum) t1 ns (by omega))
  have P1 := fun V hV => hid (pk_times V k ws.sum (by omega) (by omega) (by omega) hV)
  have P2 := fun V hV => hid (pk_plus V (k * ws.sum) ws.sum (by omega) (by omega) (by have := nd_add nl (show nDigits ws.sum ≤ 3902 by omega); omega) hV)
  have P3 := fun V i hV => hid (pk_times V (pre ws (i + 1)) t (by have := hws.pre (i + 1); omega) (by omega) (by have := OK.out.mul (i + 1); omega) hV)
  have P4 := fun V i => hid (pk_cmp V (k * ws.sum + ws.sum) (pre ws (i + 1) * t) (by have := nd_add nl (show nDigits ws.sum ≤ 3902 by omega); omega) (by have := OK.out.mul (i + 1); omega))
  have PT := fun V i (bl : Nat) (h1 : i < ws.length) h2 h3 h4 h5 h6 => hid (p_test V bt w.heap.size bl (.slice a ws.length c) ws i t (k * ws.sum) h1 OK.out h2 h3 h4 h5 h6 hws.len)
  obtain ⟨n, hn⟩ : ∃ n, ws.length = n := ⟨_, rfl⟩
  have HN := hid hn
  have hnl : n ≤ 64 := by rw [← hn]; exact hws.len
  obtain ⟨i, hi⟩ : ∃ i, fstI (fun i => decide (k * ws.sum < pre ws (i + 1) * t)) ws.length = i := ⟨_, rfl⟩
  have HI := hid hi
  have hpk : pkF ws k t = (i, decide (i < n) && decide (k * ws.sum + ws.sum ≤ pre ws (i + 1) * t)) := by unfold pkF; rw [hi, hn]
  have hmono : Hid (∀ x y, x ≤ y → y < n → (decide (k * ws.sum < pre ws (x + 1) * t)) = true → (decide (k * ws.sum < pre ws (y + 1) * t)) = true) := fun x y hxy _ h => by
    simp only [decide_eq_true_eq] at h ⊢
    exact Nat.lt_of_lt_of_le h (Nat.mul_le_mul_right _ (pre_mono ws (by omega)))
  rw [hpk]
  rw [hn] at HT q1 HV PT hi
  have HI2 := hid hi
  clear hi HI
  obtain ⟨K0, hK0⟩ : ∃ s, numB k = s := ⟨_, rfl⟩
  obtain ⟨S0, hS0⟩ : ∃ s, numB ws.sum = s := ⟨_, rfl⟩
  obtain ⟨L0, hL0⟩ : ∃ s, numB (k * ws.sum) = s := ⟨_, rfl⟩
  obtain ⟨T0, hT0⟩ : ∃ s, numB t = s := ⟨_, rfl⟩
  obtain ⟨M0, hM0⟩ : ∃ s, numB (k * ws.sum + ws.sum) = s := ⟨_, rfl⟩
  rw [hK0, hS0, hL0] at P1
  rw [hL0, hS0, hM0] at P2
  simp only [hT0] at P3
  simp only [hM0] at P4
  rw [hS0] at HA
  have E4 : Hid (numB t = T0) := hT0
  have E5 : Hid (numB (k * ws.sum) = L0) := hL0
  rw [hK0, hT0]
  clear hv hT hA hL hws hw hk hn hpk nk ns nl t1 ht hK0 hS0 hL0 hT0 hM0
  have c0 := HA.out.cell 0
  have c1 := HT.out.cell 0
  have lt1 := HA.out.lt
  have lt2 := HT.out.lt
  simp at c0 c1
  go_enter Tryz.func42, Tryz.ntmps42
  go_wp2_with fail
  have A0 := hid ((Below.refl w.heap.size w).alloc (Nat.le_refl _) (.cells #[.string T0] 23))
  refine (P1 _ (HL.out.call A0.out)).out.mono ?_; rintro e w1 ⟨rfl, hb1⟩
  have y1 := hid (A0.out.trans (hb1.mono A0.out.size))
  have B2 := hid ((Blk.new w #[.string T0] 23).call hb1)
  have l1 := hb1.size
  simp at l1
  have HA1 := hid (HA.out.call y1.out); have HT1 := hid (HT.out.call y1.out); have HV1 := hid (HV.out.call y1.out); have HL1 := hid (HL.out.call y1.out)
  have c1 := HT1.out.cell 0
  have c2 := HA1.out.cell 0
  simp at c1 c2
  have c5 : (w1.alloc (Obj.cells #[Value.string L0] 23)).cell? ⟨bt, 0, none⟩ = some (.slice a n c) := (HT1.out.alloc (.cells #[.string L0] 23)).cell 0
  clear hb1 c0
  go_wp2_with fail
  have Z0 := hid ((Below.refl w1.heap.size w1).alloc (Nat.le_refl _) (.cells #[.string L0] 23))
  have SR : SrOk 45 #[.pointer (some ⟨bt, 0, none⟩), .pointer (some ⟨w.heap.size, 0, none⟩), .pointer (some ⟨w1.heap.size, 0, none⟩)] (fun i => decide (k * ws.sum < pre ws (i + 1) * t)) n (w1.alloc (.cells #[.string L0] 23)) := fun W j hb hj =>
    (PT W j w1.heap.size hj ((HT1.out.call Z0.out).call hb) ((HV1.out.call Z0.out).call hb) (by rw [E4.out]; exact (B2.out.call Z0.out).call hb) (by rw [E5.out]; exact (Blk.new w1 _ _).call hb) ((HL1.out.call Z0.out).call hb)).out
  refine (s_Search _ n _ _ _ (by omega) (enters_of Tryz.func45 (by kernel_rfl) rfl) SR hmono.out).mono ?_; rintro e w3 ⟨rfl, hb3⟩
  rw [HI2.out]
  have z3 := hid (Z0.out.trans (hb3.mono Z0.out.size))
  have y3 := hid (bnext y1.out z3.out)
  have B3 := hid ((B2.out.call Z0.out).call hb3)
  have D3 := hid ((Blk.new w1 #[.string L0] 23).call hb3)
  have HA3 := hid (HA1.out.call z3.out); have HT3 := hid (HT1.out.call z3.out); have HV3 := hid (HV1.out.call z3.out); have HL3 := hid (HL1.out.call z3.out)
  have c3 := HT3.out.cell 0
  simp at c3
  clear hb3 c1 c2 c5 SR
  by_cases hlt : i < n
  · have q3 : decide ((i : Int) < (n : Int)) = true := by simp; omega
    have b1 : (0 : Int) ≤ (i : Int) := by omega
    have b2 : (i : Int) < (n : Int) := by omega
    obtain ⟨a', c', e', -, -, hcell⟩ := HV3.out.openS
    simp only [Value.slice.injEq] at e'
    obtain ⟨rfl, -, rfl⟩ := e'
    obtain ⟨g, o, rfl, hg, hc⟩ := hcell i _ (endL_get hlt)
    have P3' := fun V hV => P3 V i hV
    have P4' := fun V => P4 V i
    obtain ⟨X0, hX0⟩ : ∃ s, numB (pre ws (i + 1)) = s := ⟨_, rfl⟩
    obtain ⟨Y0, hY0⟩ : ∃ s, numB (pre ws (i + 1) * t) = s := ⟨_, rfl⟩
    obtain ⟨z, hz⟩ : ∃ z, ordN (k * ws.sum + ws.sum) (pre ws (i + 1) * t) = z := ⟨_, rfl⟩
    have hzz := hid (show decide (z ≤ 0) = decide (k * ws.sum + ws.sum ≤ pre ws (i + 1) * t) from by rw [← hz]; exact pk_le)
    rw [hX0, hY0] at P3'
    rw [hY0, hz] at P4'
    rw [hX0] at hc
    have KK : Hid (∀ w', Below w3.heap.size w3 w' → w'.cell? ⟨bt, 0, none⟩ = some (.slice (some ⟨g, o, none⟩) n c) ∧ w'.cell? ⟨g, o + i, none⟩ = some (.string X0) ∧ w'.cell? ⟨w.heap.size, 0, none⟩ = some (.string T0) ∧ w'.cell? ⟨w1.heap.size, 0, none⟩ = some (.string L0) ∧ w'.cell? ⟨ba, 0, none⟩ = some (.string S0)) := fun w' hb =>
      ⟨(HT3.out.call hb).cell 0, (hb.cell hg).trans hc, (B3.out.call hb).cell 0, (D3.out.call hb).cell 0, (HA3.out.call hb).cell 0⟩
    have HLT := hid hlt
    clear hcell hc hX0 hY0 hz hlt c3
    go_wp2_with fail
    go_region_held3 (fun w' => w'.cell? ⟨bt, 0, none⟩ = some (.slice (some ⟨g, o, none⟩) n c) ∧ w'.cell? ⟨g, o + i, none⟩ = some (.string X0) ∧ w'.cell? ⟨w.heap.size, 0, none⟩ = some (.string T0) ∧ w'.cell? ⟨w1.heap.size, 0, none⟩ = some (.string L0) ∧ w'.cell? ⟨ba, 0, none⟩ = some (.string S0))
      (first
        | exact KK.out _ (Below.refl _ _).drew
        | exact KK.out _ Y6.out
        | exact KK.out _ Y5.out
        | exact KK.out _ Y4.out)
      (first
        | (go_at_call 47; refine (P2 _ (HL3.out.call (Below.refl _ _).drew)).out.mono ?_; rintro e w4 ⟨rfl, hb4⟩; have Y4 := hid (show Below w3.heap.size w3 w4 from (Below.refl _ _).drew.trans hb4); clear hb4)
        | (go_at_call 43; refine (P3' _ (HL3.out.call Y4.out)).out.mono ?_; rintro e w5 ⟨rfl, hb5⟩; have Y5 := hid (bnext Y4.out hb5); clear hb5)
        | (go_at_call 46; refine (P4' _).out.mono ?_; rintro e w6 ⟨rfl, hb6⟩; have Y6 := hid (bnext Y5.out hb6); clear hb6))
    go_wp2_with fail
    go_ret2
    exact ⟨by rw [hzz.out]; simp [HLT.out], bnext y3.out Y6.out⟩
  · have q3 : decide ((i : Int) < (n : Int)) = false := by simp; omega
    have HLT := hid hlt
    have q4 : decide (i < n) = false := by simp; omega
    have Q4 := hid q4
    clear hlt q3 q4
    go_wp2_with fail
    refine held_plain [0, 1, 2, 3, 4, 5] 14 (fun w' => w'.cell? ⟨bt, 0, none⟩ = some (.slice a n c)) (by kernel_rfl) (by kernel_rfl) (by kernel_rfl) (by kernel_rfl) c3 ?_
    iterate 6
      refine ⟨_, rfl, ?_⟩
      apply Exists.intro
      refine ⟨.inl ⟨by rfl, ?_⟩, ?_⟩
      · (intro W' hW'; obtain q1 := hW'; go_simp; try (with_reducible rfl))
      (dsimp only [Act.put]; try simp only [List.setIfInBounds_toArray, List.set_cons_zero, List.set_cons_succ])
    rw [Q4.out]
    refine held_more (is := [6, 7, 8, 9, 10, 11, 12, 13, 14, 15, 16]) (g := 3) (by kernel_rfl) rfl c3 (by kernel_rfl) ?_
    iterate 11
      refine ⟨_, rfl, ?_⟩
      apply Exists.intro
      refine ⟨.inr ⟨by rfl, rfl⟩, ?_⟩
      (dsimp only [Act.put]; try simp only [List.setIfInBounds_toArray, List.set_cons_zero, List.set_cons_succ])
    refine held_more (is := [17, 18, 19]) (g := 0) (by kernel_rfl) rfl c3 (by kernel_rfl) ?_
    iterate 3
      refine ⟨_, rfl, ?_⟩
      apply Exists.intro
      refine ⟨.inl ⟨by rfl, ?_⟩, ?_⟩
      · (intro W' hW'; obtain q1 := hW'; go_simp; try (with_reducible rfl))
      (dsimp only [Act.put]; try simp only [List.setIfInBounds_toArray, List.set_cons_zero, List.set_cons_succ])
    refine wpAnyH_done (by kernel_rfl) ?_ _
    simp only [Only]
    go_wp2_with fail
    go_ret2
    exact ⟨by simp [HLT.out], y3.out.drew⟩
end Go.Proofs.YtjgcjjbnnlnilaaGreatDoor

/- Walks: ref05.Find: the index whose interval contains a cell. -/
namespace Go.Proofs.YtjgcjjbnnlnilaaGreatDoor
open Go.RowKit Go.Shelf
open Go.Lib (decDigits nDigits)
set_option linter.unusedVariables false
set_option linter.unusedSimpArgs false

/-- The cell of k among t lies within the interval of i. -/
def inI (ws : List Nat) (k t i : Nat) : Bool := decide (pre ws i * t ≤ k * ws.sum) && decide (k * ws.sum + ws.sum ≤ pre ws (i + 1) * t)

/-- What Find gives. -/
def FndI (ws : List Nat) (k t : Nat) (i : Nat) (d : Bool) : Prop := (d = true ∧ i < ws.length ∧ inI ws k t i = true) ∨ (d = false ∧ i = 0 ∧ ∀ x, x < ws.length → inI ws k t x = false)

theorem fnd_pk {ws : List Nat} {k t i : Nat} {d : Bool} (hk : k < t) (hS : 0 < ws.sum) (h : FndI ws k t i d) : d = (pkF ws k t).2 ∧ (d = true → i = (pkF ws k t).1) := by
  have hkt : k * ws.sum < t * ws.sum := Nat.mul_lt_mul_of_pos_right hk hS
  obtain ⟨j, hj⟩ : ∃ j, fstI (fun i => decide (k * ws.sum < pre ws (i + 1) * t)) ws.length = j := ⟨_, rfl⟩
  obtain ⟨h1, h2⟩ : (∀ x, x < j → ¬ k * ws.sum < pre ws (x + 1) * t) ∧ (j < ws.length → k * ws.sum < pre ws (j + 1) * t) := by
    rw [← hj]
    unfold fstI
    refine ⟨fun x hx => ?_, fun hl => ?_⟩
    · have := List.not_of_lt_findIdx hx
      simpa using this
    · have hl' : (List.range ws.length).findIdx (fun i => decide (k * ws.sum < pre ws (i + 1) * t)) < (List.range ws.length).length := by simpa using hl
      have := List.findIdx_getElem (w := hl')
      simpa using this
  have hpk : (pkF ws k t) = (j, decide (j < ws.length) && decide (k * ws.sum + ws.sum ≤ pre ws (j + 1) * t)) := by
    unfold pkF; rw [hj]
  have uniq : ∀ x, x < ws.length → inI ws k t x = true → x = j := by
    intro x hx hp
    simp only [inI, Bool.and_eq_true, decide_eq_true_eq] at hp
    rcases Nat.lt_trichotomy x j with h | h | h
    · have := h1 x h; omega
    · exact h
    · have hjl : j < ws.length := by omega
      have := h2 hjl
      have hm : pre ws (j + 1) * t ≤ pre ws x * t := Nat.mul_le_mul_right _ (pre_mono ws (by omega))
      omega
  rw [hpk]
  rcases h with ⟨rfl, hi, hp⟩ | ⟨rfl, rfl, hn⟩
  · obtain rfl := uniq i hi hp
    simp only [inI, Bool.and_eq_true, decide_eq_true_eq] at hp
    exact ⟨by simp [hi, hp.2], fun _ => rfl⟩
  · refine ⟨?_, fun h => by cases h⟩
    by_cases hjl : j < ws.length
    · have h3 := hn j hjl
      have h4 : pre ws j * t ≤ k * ws.sum := by
        rcases Nat.eq_zero_or_pos j with h0 | h0
        · rw [h0, pre_zero]; omega
        · have := h1 (j - 1) (by omega)
          rw [Nat.sub_add_cancel h0] at this
          omega
      simp only [inI, h4, decide_true, Bool.true_and] at h3
      simp [hjl, h3]
    · simp [hjl]

theorem upto_next {p : Nat → Bool} {i : Nat} (h : ∀ x, x < i → p x = false) (hi : p i = false) : ∀ x, x < i + 1 → p x = false := fun x hx => by
  rcases Nat.lt_or_ge x i with h' | h'
  · exact h x h'
  · obtain rfl : x = i := by omega
    exact hi

/-- A call gives back an index and whether it is one. -/
def RetFnd (ws : List Nat) (k t : Nat) (e : Ending) : Prop := ∃ (i : Nat) (d : Bool), e = .returned (.tuple #[.int .i64 (i : Nat), .bool d]) ∧ FndI ws k t i d

set_option maxRecDepth 100000 in
set_option maxHeartbeats 4000000 in
theorem r5_Find (w : World) (v : Value) (b : ByteArray) (ws : List Nat) (hws : WsOk ws) (hv : NRow w v (ws.length + 1) (pre ws)) (hb : b.size ≤ 256) :
    Calls Tryz.prog 122 #[v, .string b] w fun e w' => RetFnd ws (bv b.data.toList) (2 ^ b.size) e ∧ Below w.heap.size w w' := by
  have HV := hid hv; have HWS := hid hws
  obtain ⟨N, hN⟩ : ∃ N, ws.length = N := ⟨_, rfl⟩
  have HN := hid hN
  have hN64 : N ≤ 64 := by rw [← hN]; exact hws.len
  rw [hN] at HV
  obtain ⟨a, c, rfl, q1, q2, q3⟩ := HV.out.open
  obtain ⟨g, o, y0, rfl, hg, hc0, hy0⟩ := q3 N (by omega)
  obtain ⟨k, hk⟩ : ∃ k, bv b.data.toList = k := ⟨_, rfl⟩
  obtain ⟨t, ht⟩ : ∃ t, 2 ^ b.size = t := ⟨_, rfl⟩
  obtain ⟨z, hz⟩ : ∃ z, b.size = z := ⟨_, rfl⟩
  have hall : pre ws N = ws.sum := pre_all (by omega)
  rw [hall] at hy0
  have HY0 := hid hy0
  have HCell : Hid (∀ i, i ≤ N → ∃ y, w.cell? ⟨g, o + i, none⟩ = some y ∧ IsN .i64 w y (pre ws i)) := fun i hi => by
    obtain ⟨g', o', y, e, -, h1, h2⟩ := q3 i (by omega)
    simp only [Option.some.injEq, Addr.mk.injEq] at e
    obtain ⟨rfl, rfl, -⟩ := e
    exact ⟨y, h1, h2⟩
  have tle : t ≤ 2 ^ 256 := by rw [← ht]; exact Nat.pow_le_pow_right (by omega) (by omega)
  have klt : k ≤ 2 ^ 256 := by
    have h := bv_lt (l := b.data.toList) b.data.toList.length (Nat.le_refl _)
    rw [List.take_length, hk] at h
    exact Nat.le_trans (Nat.le_of_lt h) (Nat.pow_le_pow_right (by omega) (by simp; omega))
  have big : ∀ x, x ≤ 2 ^ 256 → nDigits x ≤ 78 := fun x hx => nDigits_le (by omega) (Nat.lt_of_le_of_lt hx (by decide))
  have dk := big k klt
  have LK : Hid ((limbs k).length ≤ 1000000) := num_limbs (by omega)
  have LT : Hid ((limbs t).length ≤ 1000000) := num_limbs (by have := big t tle; omega)
  have LP : Hid (∀ i, (limbs (pre ws i)).length ≤ 1000000) := fun i => num_limbs (by have := hws.pre i; omega)
  have LS : Hid ((limbs ws.sum).length ≤ 1000000) := num_limbs (by have := hws.sum; omega)
  have LKS : Hid ((limbs (k * ws.sum)).length ≤ 1000000) := num_limbs (by have := nd_mul dk hws.sum (by omega); omega)
  have RV := fun V => hid (r3_Value V b (by omega))
  have RT := fun V => hid (r3_Two V b.size (by omega))
  rw [hk] at RV ⊢
  rw [ht] at RT ⊢
  rw [hz] at RT
  have HZ := hid hz
  clear hv hws hN q3 hk ht hy0 klt tle hall big dk
  have b1 : (0 : Int) ≤ (N : Int) := by omega
  have b2 : (N : Int) < (N : Int) + 1 := by omega
  have b3 : (N : Int) < ((N + 1 : Nat) : Int) := by omega
  have w1 : IntKind.i64.wrap (((N + 1 : Nat) : Int) - 1) = (N : Int) := by rw [IntWalk.i64_in _ ⟨by omega, by omega⟩]; omega
  obtain ⟨S, hS⟩ : ∃ S, ws.sum = S := ⟨_, rfl⟩
  have HS := hid hS
  rw [hS] at HY0 LS LKS
  clear hS
  go_enter Tryz.func122, Tryz.ntmps122
  go_wp2_with fail
  refine (RT _).out.mono ?_; rintro e w1 ⟨⟨v1, rfl, hv1⟩, hb1⟩
  have V1 := hid hv1; have B1 := hid hb1; clear hv1 hb1
  go_wp2_with fail
  refine (RV _).out.mono ?_; rintro e w2 ⟨⟨v2, rfl, hv2⟩, hb2⟩
  have V2 := hid hv2; have B2 := hid (bnext B1.out hb2); have V12 := hid (V1.out.call hb2); clear hv2 hb2
  go_wp2_with fail
  refine (r1_Times _ _ _ _ _ V2.out (HY0.out.call B2.out) LK.out LS.out).mono ?_; rintro e w3 ⟨⟨v3, rfl, hv3⟩, hb3⟩
  have V3 := hid hv3; have B3 := hid (bnext B2.out hb3); have V13 := hid (V12.out.call hb3); clear hv3 hb3
  go_wp2_with fail
  refine (r1_Plus _ _ _ _ _ V3.out (HY0.out.call B3.out) LKS.out LS.out).mono ?_; rintro e w4 ⟨⟨v4, rfl, hv4⟩, hb4⟩
  have V4 := hid hv4; have B4 := hid (bnext B3.out hb4); have V14 := hid (V13.out.call hb4); have V34 := hid (V3.out.call hb4); clear hv4 hb4
  clear V1 V2 V3 V12 V13 B1 B2 B3
  go_wp2_with fail
  go_loopw [10] (fun ii wr => ∃ i : Nat, ii = .int .i64 i ∧ i ≤ N ∧ Hid (∀ x, x < i → inI ws k t x = false) ∧ Hid (Below w4.heap.size w4 wr)) (fun ii wr => N - (intOf ii).toNat)
  case atStart => exact ⟨0, rfl, Nat.zero_le _, fun x hx => absurd hx (by omega), Below.refl _ _⟩
  case round =>
    obtain ⟨i, rfl, hi, hI, hB⟩ := hrel
    have wi : IntKind.i64.wrap ((i : Int) + 1) = ((i + 1 : Nat) : Int) := by rw [IntWalk.i64_in _ ⟨by omega, by omega⟩]; omega
    by_cases hlt : i < N
    · obtain ⟨y, hc, hy⟩ := HCell.out i (by omega)
      obtain ⟨y', hc', hy'⟩ := HCell.out (i + 1) (by omega)
      have BB := hid (bnext B4.out hB.out)
      have hcw := (BB.out.cell (p := ⟨g, o + i, none⟩) hg).trans hc
      have CW' := hid fun W (h : Below w.heap.size w W) => (h.cell (p := ⟨g, o + (i + 1), none⟩) hg).trans hc'
      have HY := hid hy; have HY' := hid hy'
      have c1 : (0 : Int) ≤ (i : Int) := by omega
      have c2 : (i : Int) < (N : Int) + 1 := by omega
      have c3 : (i : Int) + 1 < (N : Int) + 1 := by omega
      have c4 : (0 : Int) ≤ (i : Int) + 1 := by omega
      clear hc hc' hy hy'
      go_wp2_with fail
      refine (r1_Times _ _ _ _ _ (HY.out.call BB.out) (V14.out.call hB.out) (LP.out i) LT.out).mono ?_; rintro e w5 ⟨⟨v5, rfl, hv5⟩, hb5⟩
      have V5 := hid hv5; have B5 := hid (bnext hB.out hb5); clear hv5 hb5
      go_wp2_with fail
      refine (r1_Order _ _ _ _ _ V5.out (V34.out.call B5.out)).mono ?_; rintro e w6 ⟨rfl, hb6⟩
      have B6 := hid (bnext B5.out hb6); clear hb6
      obtain ⟨z1, hz1⟩ : ∃ z1, ordN (pre ws i * t) (k * S) = z1 := ⟨_, rfl⟩
      have D1 := hid (show decide (z1 ≤ 0) = decide (pre ws i * t ≤ k * S) from by rw [← hz1]; exact pk_le)
      rw [hz1]
      have hcw' := CW'.out _ (bnext B4.out B6.out)
      clear hz1 hcw
      cases hd1 : decide (z1 ≤ 0)
      · have HN1 : Hid (inI ws k t i = false) := by
          have := D1.out
          rw [hd1] at this
          show inI ws k t i = false
          rw [inI, HS.out, ← this, Bool.false_and]
        go_wp2_with fail
        go_roundw
        case rel => exact ⟨i + 1, by go_num, by omega, upto_next hI.out HN1.out, B6⟩
        case measure => simp [intOf] <;> omega
      · have HD1 := hid hd1
        go_wp2_with fail
        refine (r1_Times _ _ _ _ _ (HY'.out.call (bnext B4.out B6.out)) (V14.out.call B6.out) (LP.out (i + 1)) LT.out).mono ?_; rintro e w7 ⟨⟨v7, rfl, hv7⟩, hb7⟩
        have V7 := hid hv7; have B7 := hid (bnext B6.out hb7); clear hv7 hb7
        go_wp2_with fail
        refine (r1_Order _ _ _ _ _ (V4.out.call B7.out) V7.out).mono ?_; rintro e w8 ⟨rfl, hb8⟩
        have B8 := hid (bnext B7.out hb8); clear hb8
        obtain ⟨z2, hz2⟩ : ∃ z2, ordN (k * S + S) (pre ws (i + 1) * t) = z2 := ⟨_, rfl⟩
        have D2 := hid (show decide (z2 ≤ 0) = decide (k * S + S ≤ pre ws (i + 1) * t) from by rw [← hz2]; exact pk_le)
        rw [hz2]
        have HI : Hid (inI ws k t i = decide (z2 ≤ 0)) := by
          show inI ws k t i = _
          rw [inI, HS.out, ← D1.out, HD1.out, D2.out, Bool.true_and]
        clear hz2
        cases hd2 : decide (z2 ≤ 0)
        · have HN1 : Hid (inI ws k t i = false) := by rw [hd2] at HI; exact HI
          go_wp2_with fail
          go_roundw
          case rel => exact ⟨i + 1, by go_num, by omega, upto_next hI.out HN1.out, B8⟩
          case measure => simp [intOf] <;> omega
        · have HN1 : Hid (inI ws k t i = true) := by rw [hd2] at HI; exact HI
          go_wp2_with fail
          go_ret2
          exact ⟨⟨i, true, rfl, .inl ⟨rfl, by rw [HN.out]; exact hlt, HN1.out⟩⟩, bnext B4.out B8.out⟩
    · obtain rfl : i = N := by omega
      go_wp2_with fail
      go_ret2
      exact ⟨⟨0, false, rfl, .inr ⟨rfl, rfl, fun x hx => hI.out x (by rw [← HN.out]; exact hx)⟩⟩, bnext B4.out hB.out⟩
end Go.Proofs.YtjgcjjbnnlnilaaGreatDoor

/- Walks: pick.Draw. -/
namespace Go.Proofs.YtjgcjjbnnlnilaaGreatDoor
open Go.RowKit Go.Shelf
open Go.Lib (decDigits nDigits)
set_option linter.unusedVariables false
set_option linter.unusedSimpArgs false

theorem wtE_ok : ∀ (l : List ByteArray), wtE l = 0 → ∀ b ∈ l, b = numB (bN b) ∧ nDigits (bN b) ≤ 3800
  | [], _, b, hb => by simp at hb
  | x :: r, h, b, hb => by
    unfold wtE at h
    by_cases h1 : errN x.data.toList ≠ 0
    · rw [if_pos h1] at h; exact absurd h h1
    · rw [if_neg h1] at h
      by_cases h2 : 3800 < x.size
      · rw [if_pos h2] at h; exact absurd h (by decide)
      · rw [if_neg h2] at h
        rcases List.mem_cons.1 hb with rfl | hb
        · obtain ⟨a, e, h3⟩ := errN_zero.1 (Decidable.not_not.1 h1)
          have ha : bN b = a := by rw [bN, e, dv_dec]
          have hb2 : b = numB a := by apply ba_ext; rw [numB_list]; exact e
          rw [ha]
          refine ⟨hb2, ?_⟩
          have := numB_size a
          rw [← hb2] at this
          omega
        · exact wtE_ok r h b hb

theorem wsE_ok {l : List ByteArray} (h : wsE l = 0) : l = (l.map bN).map numB ∧ WsOk (l.map bN) ∧ 1 ≤ l.length := by
  unfold wsE at h
  by_cases h1 : l.length = 0 ∨ 64 < l.length
  · rw [if_pos h1] at h; exact absurd h (by decide)
  · rw [if_neg h1] at h
    by_cases h2 : wtE l ≠ 0
    · rw [if_pos h2] at h; exact absurd h h2
    · have h3 := wtE_ok l (Decidable.not_not.1 h2)
      refine ⟨?_, ⟨by rw [List.length_map]; omega, fun x hx => ?_⟩, by omega⟩
      · rw [List.map_map]
        conv => lhs; rw [← List.map_id l]
        exact List.map_congr_left fun b hb => (h3 b hb).1
      · obtain ⟨b, hb, rfl⟩ := List.mem_map.1 hx
        exact (h3 b hb).2

/-- The error of Draw, its result. -/
def drE (l : List ByteArray) (b : ByteArray) : Int := if wsE l ≠ 0 then wsE l else chkE b
def dr3 (l : List ByteArray) (b : ByteArray) : Bool × Nat × Nat := if drE l b = 0 then pdr (pkF (l.map bN)) 0 1 b.data.toList else (false, 0, 0)
theorem chkE_size {b : ByteArray} (h : chkE b = 0) : b.size ≤ 256 := by
  unfold chkE at h
  split at h
  · split at h
    · exact absurd h (by decide)
    · omega
  · exact absurd h (by decide)

set_option maxRecDepth 100000 in
set_option maxHeartbeats 4000000 in
theorem p_Draw (w : World) (v : Value) (l : List ByteArray) (b : ByteArray) (hv : Row w v (strs l)) (hl : ∀ x ∈ l, x.size ≤ 1000000) (hb : b.size ≤ 100000000) (hL : Lay w) :
    Calls Tryz.prog 11 #[v, .string b] w fun e w' => e = .returned (.tuple #[dw3 (dr3 l b), .int .i64 (drE l b)]) ∧ Below w.heap.size w w' := by
  have PC := fun V hV => hid (p_check V v l hV hl)
  have PD := fun V => hid (p_checked V b hb)
  have PE := fun V hws hV hLV => hid (p_ends V v (l.map bN) hws hV hLV)
  have HL := hid hL; have HV := hid hv
  obtain ⟨a, c, rfl, q1, q2, -⟩ := hv.openS
  obtain ⟨N, hN⟩ : ∃ N, l.length = N := ⟨_, rfl⟩
  have HN := hid hN
  rw [hN] at PC PE q1 HV ⊢
  clear hv hL hl hN
  have A0 := hid ((Below.refl w.heap.size w).alloc (Nat.le_refl _) (.cells #[.bool false, .int .i64 0, .int .i64 0] 29))
  have x0 := hid (Blk.new w #[.bool false, .int .i64 0, .int .i64 0] 29)
  obtain ⟨z, hz⟩ : ∃ z, wsE l = z := ⟨_, rfl⟩
  obtain ⟨y, hy⟩ : ∃ y, chkE b = y := ⟨_, rfl⟩
  have HZ := hid hz; have HY := hid hy
  rw [hz] at PC
  rw [hy] at PD
  by_cases h0 : z = 0
  · by_cases h1 : y = 0
    · obtain ⟨D1, D2, D3⟩ := wsE_ok (hz.trans h0)
      have hE : drE l b = 0 := by unfold drE; rw [hz, hy, h0, h1]; simp
      have hR : dr3 l b = pdr (pkF (l.map bN)) 0 1 b.data.toList := by unfold dr3; rw [if_pos hE]
      rw [hE, hR]
      have h256 := chkE_size (hy.trans h1)
      obtain ⟨ws, hws⟩ : ∃ ws, l.map bN = ws := ⟨_, rfl⟩
      rw [hws] at PE D1 D2 ⊢
      have HWS := hid D2
      have hlen : ws.length = N := by rw [← hws, List.length_map]; exact HN.out
      have HD1 := hid D1
      rw [HN.out] at D3
      obtain ⟨m, rfl⟩ : ∃ m, N = m + 1 := ⟨N - 1, by omega⟩
      have HLEN := hid hlen
      have hm : m < 64 := by have := D2.len; omega
      subst h0 h1
      clear D1 D2 D3 hE hR hz hy hws hlen hb
      go_enter Tryz.func11, Tryz.ntmps11
      go_wp2_with fail
      refine (PC _ (HV.out.call A0.out)).out.mono ?_; rintro e w1 ⟨rfl, hb1⟩
      have y1 := hid (bnext A0.out hb1); have k1 := hid (x0.out.call hb1)
      clear hb1
      go_wp2_with fail
      refine (PD _).out.mono ?_; rintro e w2 ⟨rfl, hb2⟩
      have y2 := hid (bnext y1.out hb2); have k2 := hid (k1.out.call hb2)
      clear hb2
      go_wp2_with fail
      refine (PE _ HWS.out (by rw [← HD1.out]; exact HV.out.call y2.out) (HL.out.call y2.out)).out.mono ?_; rintro e w3 ⟨⟨u, rfl, hu⟩, hb3⟩
      have y3 := hid (bnext y2.out hb3); have k3 := hid (k2.out.call hb3)
      clear hb3
      have hu2 := hid hu
      obtain ⟨a5, c5, rfl, r1, r2, r3⟩ := hu.openS
      rw [endL_length] at hu2 r1 ⊢
      obtain ⟨g, o, rfl, hg, hc⟩ := r3 m _ (endL_get (by rw [HLEN.out]; omega))
      rw [pre_all (by rw [HLEN.out]; omega)] at hc
      rw [HLEN.out] at r1 ⊢
      have HU : Hid (Row w3 (.slice (some ⟨g, o, none⟩) (m + 1) c5) (strs (endL ws ws.length))) := by have := hu2.out; rw [HLEN.out] at this ⊢; exact this
      obtain ⟨S0, hS0⟩ : ∃ s, numB ws.sum = s := ⟨_, rfl⟩
      have HS0 := hid hS0
      rw [hS0] at hc
      have HC := hid hc
      have e1 : IntKind.i64.wrap (((m + 1 : Nat) : Int) - 1) = (m : Int) := by rw [IntWalk.i64_in _ ⟨by omega, by omega⟩]; omega
      have b1 : (0 : Int) ≤ (m : Int) := by omega
      have b2 : (m : Int) < (m : Int) + 1 := by omega
      have c1 : (w3.alloc (.cells #[.slice (some ⟨g, o, none⟩) (m + 1) c5] 22)).cell? ⟨g, o + m, none⟩ = some (.string S0) := (((Below.refl w3.heap.size w3).alloc (Nat.le_refl _) _).cell hg).trans hc
      clear hu hu2 r3 hc hS0
      go_wp2_with fail
      have A5 := hid (((Below.refl w3.heap.size w3).alloc (Nat.le_refl _) (.cells #[.slice (some ⟨g, o, none⟩) (m + 1) c5] 22)).alloc (by simp) (.cells #[.string S0] 23))
      have X7 := hid ((Blk.new w3 #[.slice (some ⟨g, o, none⟩) (m + 1) c5] 22).alloc (.cells #[.string S0] 23))
      have X8 : Hid (Blk ((w3.alloc (.cells #[.slice (some ⟨g, o, none⟩) (m + 1) c5] 22)).alloc (.cells #[.string S0] 23)) (w3.heap.size + 1) #[.string S0] 23) := Blk.made _ _ _ (by simp)
      have hL5 := hid ((HL.out.call y3.out).call A5.out)
      refine (p_draw _ b 42 _ (pkF ws) h256 (enters_of Tryz.func42 (by kernel_rfl) rfl) (p_dec _ _ _ _ ws (by rw [HS0.out]; exact X8.out) X7.out (HU.out.call A5.out) HWS.out hL5.out) hL5.out).mono ?_; rintro e w4 ⟨rfl, hb4⟩
      have z4 := hid (A5.out.trans (hb4.mono A5.out.size))
      have y4 := hid (bnext y3.out z4.out); have k4 := hid (k3.out.call z4.out)
      obtain ⟨X, hX⟩ : ∃ X, pdr (pkF ws) 0 1 b.data.toList = X := ⟨_, rfl⟩
      rw [hX]
      have HX := hid hX
      obtain ⟨d, vv, uu⟩ := X
      simp only [dw3]
      clear hb4 hX c1
      have r0 := k4.out.cell 0
      have r1' := k4.out.cell 1
      have r2' := k4.out.cell 2
      have f0 := k4.out.free 0
      have f1 := k4.out.free 1
      have f2 := k4.out.free 2
      simp at r0 r1' r2'
      go_wp2_with fail
      have s3 := ((k4.out.set 0 (.bool d)).set 1 (.int .i64 (vv : Nat))).set 2 (.int .i64 (uu : Nat))
      have z0 := s3.cell 0
      have z1 := s3.cell 1
      have z2 := s3.cell 2
      simp at z0 z1 z2
      refine bodyPost_ret (v := .tuple #[.agg #[.bool d, .int .i64 (vv : Nat), .int .i64 (uu : Nat)], .int .i64 0]) (by simp [results, Tryz.results11, go_sem, z0, z1, z2]) rfl ⟨by rw [HX.out]; rfl, ?_⟩
      exact ((y4.out.setCell (Nat.le_refl _) _).setCell (Nat.le_refl _) _).setCell (Nat.le_refl _) _
    · have hE : drE l b = y := by unfold drE; rw [hz, hy, h0]; simp
      have hR : dr3 l b = (false, 0, 0) := by unfold dr3; rw [if_neg (by rw [hE]; exact h1)]
      rw [hE, hR]
      simp only [dw3]
      have q3 : (y == 0) = false := by rw [beq_eq_false_iff_ne]; exact h1
      have q4 : (y != 0) = true := by rw [bne_iff_ne]; exact h1
      subst h0
      clear hE hR hz hy hb h1
      go_enter Tryz.func11, Tryz.ntmps11
      go_wp2_with fail
      refine (PC _ (HV.out.call A0.out)).out.mono ?_; rintro e w1 ⟨rfl, hb1⟩
      have y1 := hid (bnext A0.out hb1); have k1 := hid (x0.out.call hb1)
      clear hb1
      go_wp2_with fail
      refine (PD _).out.mono ?_; rintro e w2 ⟨rfl, hb2⟩
      have y2 := hid (bnext y1.out hb2); have k2 := hid (k1.out.call hb2)
      clear hb2
      have r0 := k2.out.cell 0
      have r1' := k2.out.cell 1
      have r2' := k2.out.cell 2
      have f0 := k2.out.free 0
      have f1 := k2.out.free 1
      have f2 := k2.out.free 2
      simp at r0 r1' r2'
      go_wp2_with fail
      have s3 := ((k2.out.set 0 (.bool false)).set 1 (.int .i64 0)).set 2 (.int .i64 0)
      have z0 := s3.cell 0
      have z1 := s3.cell 1
      have z2 := s3.cell 2
      simp at z0 z1 z2
      refine bodyPost_ret (v := .tuple #[.agg #[.bool false, .int .i64 0, .int .i64 0], .int .i64 y]) (by simp [results, Tryz.results11, go_sem, z0, z1, z2]) rfl ⟨rfl, ?_⟩
      exact ((y2.out.setCell (Nat.le_refl _) _).setCell (Nat.le_refl _) _).setCell (Nat.le_refl _) _
  · have hE : drE l b = z := by unfold drE; rw [hz, if_pos h0]
    have hR : dr3 l b = (false, 0, 0) := by unfold dr3; rw [if_neg (by rw [hE]; exact h0)]
    rw [hE, hR]
    simp only [dw3]
    have q3 : (z == 0) = false := by rw [beq_eq_false_iff_ne]; exact h0
    have q4 : (z != 0) = true := by rw [bne_iff_ne]; exact h0
    clear hE hR hz hy hb h0
    go_enter Tryz.func11, Tryz.ntmps11
    go_wp2_with fail
    refine (PC _ (HV.out.call A0.out)).out.mono ?_; rintro e w1 ⟨rfl, hb1⟩
    have y1 := hid (bnext A0.out hb1); have k1 := hid (x0.out.call hb1)
    clear hb1
    have r0 := k1.out.cell 0
    have r1' := k1.out.cell 1
    have r2' := k1.out.cell 2
    have f0 := k1.out.free 0
    have f1 := k1.out.free 1
    have f2 := k1.out.free 2
    simp at r0 r1' r2'
    go_wp2_with fail
    have s3 := ((k1.out.set 0 (.bool false)).set 1 (.int .i64 0)).set 2 (.int .i64 0)
    have z0 := s3.cell 0
    have z1 := s3.cell 1
    have z2 := s3.cell 2
    simp at z0 z1 z2
    refine bodyPost_ret (v := .tuple #[.agg #[.bool false, .int .i64 0, .int .i64 0], .int .i64 z]) (by simp [results, Tryz.results11, go_sem, z0, z1, z2]) rfl ⟨rfl, ?_⟩
    exact ((y1.out.setCell (Nat.le_refl _) _).setCell (Nat.le_refl _) _).setCell (Nat.le_refl _) _
end Go.Proofs.YtjgcjjbnnlnilaaGreatDoor

/- Walks: ref05.Shortest, ref05.Draw. -/
namespace Go.Proofs.YtjgcjjbnnlnilaaGreatDoor
open Go.RowKit Go.Shelf
open Go.Lib (decDigits nDigits)
set_option linter.unusedVariables false
set_option linter.unusedSimpArgs false

/-- What the rounds over the beginnings of a bit string keep. -/
structure ShI (f : Nat → Nat → Nat × Bool) (L : List UInt8) (i : Nat) : Prop where
  le : i ≤ L.length + 1
  eq : i ≤ L.length → pdAt f L (bv (L.take i)) (2 ^ i) i = pdr f 0 1 L
  last : i = L.length + 1 → pdr f 0 1 L = (false, 0, L.length)

theorem ShI.start (f : Nat → Nat → Nat × Bool) (L : List UInt8) : ShI f L 0 := ⟨by omega, fun _ => by rw [← pdAt_start]; simp [bv], fun h => by omega⟩
theorem ShI.next {f : Nat → Nat → Nat × Bool} {L : List UInt8} {i : Nat} (h : ShI f L i) (hi : i ≤ L.length) (hn : (f (bv (L.take i)) (2 ^ i)).2 = false) : ShI f L (i + 1) := by
  refine ⟨by omega, fun hlt => ?_, fun he => ?_⟩
  · have := h.eq hi
    rw [pdAt_next hn (by omega)] at this
    rw [← this, bv_take (l := L) (i := i) (b := L[i]) (List.getElem?_eq_getElem (by omega)), Nat.pow_succ, Nat.mul_two]
  · have := h.eq hi
    obtain rfl : i = L.length := by omega
    rw [pdAt_late hn] at this
    exact this.symm
theorem ShI.done {f : Nat → Nat → Nat × Bool} {L : List UInt8} {i : Nat} (h : ShI f L i) (hi : i ≤ L.length) (hn : (f (bv (L.take i)) (2 ^ i)).2 = true) : pdr f 0 1 L = (true, (f (bv (L.take i)) (2 ^ i)).1, i) := by
  rw [← h.eq hi, pdAt_done hn]

theorem take_ex (s : ByteArray) {i : Nat} (h : i ≤ s.size) : (s.extract 0 i).data.toList = s.data.toList.take i ∧ (s.extract 0 i).size = i := by
  refine ⟨by rw [extract_list]; simp, by simp; omega⟩

set_option maxRecDepth 100000 in
set_option maxHeartbeats 2000000 in
theorem r5_Shortest (w : World) (v : Value) (s : ByteArray) (ws : List Nat) (hws : WsOk ws) (hS : 0 < ws.sum) (hv : NRow w v (ws.length + 1) (pre ws)) (hs : s.size ≤ 256) :
    Calls Tryz.prog 77 #[v, .string s] w fun e w' => e = .returned (dw3 (pdr (pkF ws) 0 1 s.data.toList)) ∧ Below w.heap.size w w' := by
  have RE : Hid (∀ V i, i ≤ s.size → Below w.heap.size w V → Calls Tryz.prog 122 #[v, .string (s.extract 0 i)] V fun e w' => RetFnd ws (bv (s.data.toList.take i)) (2 ^ i) e ∧ Below V.heap.size V w') := fun V i hi hb => by
    have h := r5_Find V v (s.extract 0 i) ws hws (hv.call hb) (by rw [(take_ex s hi).2]; omega)
    rw [(take_ex s hi).1, (take_ex s hi).2] at h
    exact h
  obtain ⟨a, c, rfl, -, -, -⟩ := hv.open
  obtain ⟨N1, hN1⟩ : ∃ x, ws.length + 1 = x := ⟨_, rfl⟩
  rw [hN1] at RE ⊢
  obtain ⟨L, hL⟩ : ∃ L, s.data.toList = L := ⟨_, rfl⟩
  have hlen := hid (show L.length = s.size from by rw [← hL]; simp)
  rw [hL] at RE ⊢
  have HS := hid hS
  clear hws hS hv hN1 hL
  have x1 := hid (Blk.made w #[.bool false, .int .i64 0, .int .i64 0] 29 (n := w.heap.size) rfl)
  have b1 := hid ((Below.refl w.heap.size w).alloc (Nat.le_refl _) (.cells #[.bool false, .int .i64 0, .int .i64 0] 29))
  go_enter Tryz.func77, Tryz.ntmps77
  go_wp2_with fail
  go_loopw [5] (fun ii wr => ∃ i : Nat, ii = .int .i64 i ∧ Hid (ShI (pkF ws) L i) ∧ i ≤ s.size + 1 ∧ Hid (Blk wr w.heap.size #[.bool false, .int .i64 0, .int .i64 0] 29) ∧ Hid (Below w.heap.size w wr)) (fun ii wr => s.size + 1 - (intOf ii).toNat)
  case atStart => exact ⟨0, rfl, ShI.start _ _, by omega, x1, b1⟩
  case round =>
    obtain ⟨i, rfl, hI, hi, k1, hB⟩ := hrel
    by_cases hle : i ≤ s.size
    · have q0 : decide (i ≤ s.size) = true := by simpa using hle
      have RI := hid (RE.out wr i hle hB.out)
      have hbv : bv (L.take i) < 2 ^ i := bv_lt i (by rw [hlen.out]; exact hle)
      have HBV := hid hbv
      clear hbv
      go_wp2_with fail
      refine RI.out.mono ?_; rintro e w2 ⟨⟨vv, bb, rfl, hf⟩, hb2⟩
      obtain ⟨h1, h2⟩ := fnd_pk HBV.out HS.out hf
      have H1 := hid h1; have H2 := hid h2
      have B2 := hid (hB.out.trans (hb2.mono hB.out.size)); have k12 := hid (k1.out.call hb2)
      clear hb2 hf h1 h2
      cases bb
      · have NX := hid (hI.out.next (by rw [hlen.out]; exact hle) H1.out.symm)
        go_wp2_with fail
        go_roundw
        case rel => exact ⟨i + 1, by go_num, NX, by omega, k12, B2⟩
        case measure => simp [intOf] <;> omega
      · have DN := hid (hI.out.done (by rw [hlen.out]; exact hle) H1.out.symm)
        rw [← H2.out rfl] at DN
        have r0 := k12.out.cell 0
        have r1 := k12.out.cell 1
        have r2 := k12.out.cell 2
        have f0 := k12.out.free 0
        have f1 := k12.out.free 1
        have f2 := k12.out.free 2
        simp at r0 r1 r2
        go_wp2_with fail
        have s3 := ((k12.out.set 0 (.bool true)).set 1 (.int .i64 (vv : Nat))).set 2 (.int .i64 (i : Nat))
        have z0 := s3.cell 0
        have z1 := s3.cell 1
        have z2 := s3.cell 2
        simp at z0 z1 z2
        refine bodyPost_ret (v := .agg #[.bool true, .int .i64 (vv : Nat), .int .i64 (i : Nat)]) (by simp [results, Tryz.results77, go_sem, z0, z1, z2]) rfl ⟨by rw [DN.out]; rfl, ?_⟩
        exact ((B2.out.setCell (Nat.le_refl _) _).setCell (Nat.le_refl _) _).setCell (Nat.le_refl _) _
    · obtain rfl : i = s.size + 1 := by omega
      have LS := hid (hI.out.last (by rw [hlen.out]))
      have q0 : decide (s.size + 1 ≤ s.size) = false := by simp
      have r0 := k1.out.cell 0
      have r1 := k1.out.cell 1
      have r2 := k1.out.cell 2
      have f0 := k1.out.free 0
      have f1 := k1.out.free 1
      have f2 := k1.out.free 2
      simp at r0 r1 r2
      go_wp2_with fail
      have s3 := ((k1.out.set 0 (.bool false)).set 1 (.int .i64 0)).set 2 (.int .i64 (s.size : Nat))
      have z0 := s3.cell 0
      have z1 := s3.cell 1
      have z2 := s3.cell 2
      simp at z0 z1 z2
      refine bodyPost_ret (v := .agg #[.bool false, .int .i64 0, .int .i64 (s.size : Nat)]) (by simp [results, Tryz.results77, go_sem, z0, z1, z2]) rfl ⟨by rw [LS.out, hlen.out]; rfl, ?_⟩
      exact ((hB.out.setCell (Nat.le_refl _) _).setCell (Nat.le_refl _) _).setCell (Nat.le_refl _) _
end Go.Proofs.YtjgcjjbnnlnilaaGreatDoor

/- Walks: the program's limbs: Zero, One. -/
namespace Go.Proofs.YtjgcjjbnnlnilaaGreatDoor
open Go.RowKit
set_option linter.unusedVariables false

def isZ (n : Nat) : Bool := decide (n = 0)
def isO (n : Nat) : Bool := decide (n = 1)

theorem isZ_iff {n : Nat} : isZ n = true ↔ n = 0 := by simp [isZ]
theorem isO_iff {n : Nat} : isO n = true ↔ n = 1 := by simp [isO]

theorem limbs_len_zero {n : Nat} : (limbs n).length = 0 ↔ n = 0 := by
  rw [List.length_eq_zero_iff]; exact limbs_nil

theorem l_Zero (w : World) (v : Value) (n : Nat) (h : IsN .u64 w v n) : Calls Tryz.prog 102 #[v] w fun e w' => e = .returned (.bool (isZ n)) ∧ w = w' := by
  obtain ⟨a, c, rfl, h1, h2, -⟩ := h.openI
  obtain ⟨L, hL⟩ : ∃ L, (limbs n).length = L := ⟨_, rfl⟩
  have hz : isZ n = ((L : Int) == 0) := by
    rw [Bool.eq_iff_iff, isZ_iff, beq_iff_eq]
    rw [← limbs_len_zero, hL]; omega
  have HZ := hid hz
  rw [hL]
  clear h hL hz h1
  go_enter Tryz.func102, Tryz.ntmps102
  go_wp2_with fail
  go_ret
  exact ⟨by rw [HZ.out]; first | rfl | simp, rfl⟩

theorem l_One (w : World) (v : Value) (n : Nat) (h : IsN .u64 w v n) : Calls Tryz.prog 158 #[v] w fun e w' => e = .returned (.bool (isO n)) ∧ w = w' := by
  obtain ⟨a, c, rfl, h1, h2, h3⟩ := h.openI
  by_cases hl : (limbs n).length = 1
  · obtain ⟨x, hx⟩ : ∃ x, (limbs n)[0]? = some x := ⟨_, List.getElem?_eq_getElem (by omega)⟩
    obtain ⟨g, o, rfl, hg, hc⟩ := h3 0 x hx
    rw [Nat.add_zero] at hc
    have hn : n = x := by
      have h4 : limbs n = [x] := by
        apply List.ext_getElem?
        intro i
        rcases i with _ | i
        · exact hx
        · rw [List.getElem?_eq_none (by omega)]; simp
      have := val_limbs n
      rw [h4] at this
      simpa [val_cons] using this.symm
    subst hn
    have HL := hid hl
    rw [hl]
    clear hl hx h3 h h1
    by_cases h1 : n = 1
    · subst h1
      go_enter Tryz.func158, Tryz.ntmps158
      go_wp2_with fail
      go_ret
      exact ⟨rfl, rfl⟩
    · have q1 : ((n : Int) == 1) = false := beq_eq_false_iff_ne.2 (by omega)
      have H1 := hid (show isO n = false by simp [isO, h1])
      clear h1
      go_enter Tryz.func158, Tryz.ntmps158
      go_wp2_with fail
      go_ret
      exact ⟨ret_bool (by rw [H1.out]), rfl⟩
  · obtain ⟨L, hL⟩ : ∃ L, (limbs n).length = L := ⟨_, rfl⟩
    have hn : isO n = false := by
      refine Bool.eq_false_iff.2 fun e => hl ?_
      rw [isO_iff.1 e, limbs_one]; rfl
    rw [hL] at hl ⊢
    have q1 : ((L : Int) == 1) = false := beq_eq_false_iff_ne.2 (by omega)
    have H1 := hid hn
    clear hl hn hL h h3 h1
    go_enter Tryz.func158, Tryz.ntmps158
    go_wp2_with fail
    go_ret
    exact ⟨ret_bool (by rw [H1.out]), rfl⟩
end Go.Proofs.YtjgcjjbnnlnilaaGreatDoor
