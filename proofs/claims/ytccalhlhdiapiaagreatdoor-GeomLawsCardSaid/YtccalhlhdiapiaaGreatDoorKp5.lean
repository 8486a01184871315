/- Texts that the proof rests on, merged: R1i, R1j, R2a, Dig, R2m, Rp3, Own1, Nt, Er1, Pc0, Cv1, Tot, Cv2, Sh4, G1c, L11, G2, QD, G3, G4, G5, C1, C2h, C2, Coin2, Coins, Ser. -/
import Derived.Test.YtccalhlhdiapiaaGreatDoorKp4
import Derived.Deep.AppendLies
import Derived.RangeFuncBox
import Derived.Scope
import Derived.Shelf.Small.Wraps
import Derived.Shelf.Strings.Shaped
import Derived.Ground.NamesProg
import Derived.Test.YtccalhlhdiapiaaGreatDoorProg
namespace Go.Proofs.YtccalhlhdiapiaaGreatDoor
open Go.RowKit
set_option linter.unusedVariables false
theorem divide_less (w : World) (v u : Value) (a b : Nat) (ha : IsN .i64 w v a) (hb : IsN .i64 w u b) (hlt : a < b) :
    Calls Tryz.prog 128 #[v, u] w fun e w' => RetNN .i64 (a / b) (a % b) e w' ∧ Below w.heap.size w w' := by
  have HA := hid ha; have HB := hid hb; have HL := hid (ordN_lt hlt); have HQ := hid (Nat.div_eq_of_lt hlt); have HR := hid (Nat.mod_eq_of_lt hlt)
  obtain ⟨a1, c1, rfl, _⟩ := ha.openI
  obtain ⟨a2, c2, rfl, _⟩ := hb.openI
  clear ha hb hlt
  go_enter Tryz.func128, Tryz.ntmps128
  go_wp2_with fail
  refine (r1_Order _ _ _ a b HA.out HB.out).mono ?_; rintro e w1 ⟨rfl, hb1⟩
  have B1 := hid hb1; clear hb1
  rw [HL.out]
  go_wp2_with fail
  go_ret2
  exact ⟨⟨_, _, rfl, by rw [HQ.out]; exact IsN.zero _ _, by rw [HR.out]; exact HA.out.call B1.out⟩, B1.out⟩
set_option maxRecDepth 100000 in
set_option maxHeartbeats 2000000 in
theorem divide_one (w : World) (v u : Value) (a b : Nat) (ha : IsN .i64 w v a) (hb : IsN .i64 w u b) (hle : b ≤ a) (h0 : 0 < b) (h1 : b < 1000000000) (hla : (limbs a).length ≤ 1000000) :
    Calls Tryz.prog 128 #[v, u] w fun e w' => RetNN .i64 (a / b) (a % b) e w' ∧ Below w.heap.size w w' := by
  have HA := hid ha; have HB := hid hb
  have hord : ordN a b = 0 ∨ ordN a b = 1 := by
    unfold ordN; split
    · omega
    · split <;> simp
  obtain ⟨a1, c1, rfl, h1', _⟩ := ha.openI
  obtain ⟨a2, c2, rfl, h2', h3', h4'⟩ := hb.openI
  have hl1 : limbs b = [b] := limbs_small h0 h1
  obtain ⟨g, o, rfl, hg, hc⟩ := h4' 0 b (by rw [hl1]; rfl)
  rw [Nat.add_zero] at hc
  have HC := hid hc
  have hlen : (limbs b).length = 1 := by rw [hl1]; rfl
  rw [hlen] at HB h2' ⊢
  clear ha hb hc h4' hl1 hlen
  go_enter Tryz.func128, Tryz.ntmps128
  go_wp2_with fail
  refine (r1_Order _ _ _ a b HA.out HB.out).mono ?_; rintro e w1 ⟨rfl, hb1⟩
  have d1 := (hb1.cell (p := ⟨g, o, none⟩) hg).trans HC.out
  have B1 := hid hb1; clear hb1
  obtain ⟨t, ht⟩ : ∃ t, ordN a b = t := ⟨_, rfl⟩
  rw [ht] at hord ⊢
  have q0 : decide (t < 0) = false := by simp; omega
  clear ht hord
  go_wp2_with fail
  refine (r1_short _ _ a b (HA.out.call B1.out) h0 h1 hla).mono ?_; rintro e w2 ⟨⟨v2, rfl, hv2⟩, hb2⟩
  have B2 := hid hb2; have V2 := hid hv2; clear hb2 hv2
  have hrb : a % b < 1000000000 := Nat.lt_trans (Nat.mod_lt a h0) h1
  go_wp2_with fail
  refine (r1_trim _ _ [a % b] (Sm.cons hrb Sm.nil) ?_).mono ?_
  · exact Row.of_blk (b := w2.heap.size) (n := 1) (c := 1) (cs := #[.int .i64 ((a % b : Nat) : Int)]) (Blk.new w2 _ _) rfl (by unfold maxLen; omega) (fun i x hx => by simpa [ints] using hx) (Nat.le_refl _) (by unfold maxLen; omega)
  · rintro e w3 ⟨⟨v3, rfl, hv3⟩, rfl⟩
    have V3 := hid hv3; clear hv3
    go_wp2_with fail
    go_ret2
    have hb3 : Below w2.heap.size w2 (w2.alloc (.cells #[.int .i64 ((a % b : Nat) : Int)] 3)) := (Below.refl _ _).alloc (Nat.le_refl _) _
    refine ⟨⟨_, _, rfl, V2.out.call hb3, ?_⟩, bnext (bnext B1.out B2.out) hb3⟩
    have := V3.out
    rwa [show val [a % b] = a % b by simp [val_cons]] at this
set_option maxRecDepth 100000 in
set_option maxHeartbeats 4000000 in
theorem divide_many (w : World) (v u : Value) (a b m : Nat) (ha : IsN .i64 w v a) (hb : IsN .i64 w u b) (hle : b ≤ a) (hn : (limbs b).length = m) (hm2 : 2 ≤ m) (hla : (limbs a).length ≤ 1000000) :
    Calls Tryz.prog 128 #[v, u] w fun e w' => RetNN .i64 (a / b) (a % b) e w' ∧ Below w.heap.size w w' := by
  have HA := hid ha; have HB := hid hb
  have hord : ordN a b = 0 ∨ ordN a b = 1 := by
    unfold ordN; split
    · omega
    · split <;> simp
  have hmn := limbs_length_mono hle
  obtain ⟨a1, c1, rfl, h1', _⟩ := ha.openI
  obtain ⟨a2, c2, rfl, h2', h3', h4'⟩ := hb.openI
  obtain ⟨x, hx⟩ : ∃ x, (limbs b)[m - 1]? = some x := ⟨_, List.getElem?_eq_getElem (by omega)⟩
  obtain ⟨g, o, rfl, hg, hc⟩ := h4' (m - 1) x hx
  have HC := hid hc
  have hn1 : (limbs b).length = (m - 1) + 1 := by omega
  obtain ⟨s1, s2, s3⟩ := scale_len hn1 hx
  obtain ⟨t1, t2, _⟩ := top_limb hn1 hx
  obtain ⟨d, hd⟩ : ∃ d, 1000000000 / (x + 1) = d := ⟨_, rfl⟩
  rw [hd] at s1 s2 s3
  have HS := hid (show (limbs (b * d)).length = m by omega)
  have hdI := hid (show ((1000000000 : Int) / ((x : Int) + 1)) = (d : Int) from by rw [← hd]; rfl)
  rw [hn] at h2' hmn ⊢
  obtain ⟨L, hL⟩ : ∃ L, (limbs a).length = L := ⟨_, rfl⟩
  rw [hL] at hmn h1' ⊢
  have hla' : L ≤ 1000000 := by omega
  have HL := hid hL; have HN := hid hn; have HLA := hid hla; have HLE := hid hle
  rw [hL] at HA; rw [hn] at HB
  obtain ⟨K, hK⟩ : ∃ K, K = L + 1 - m := ⟨_, rfl⟩
  have hKI := hid (show ((L : Int) + 1 - (m : Int)) = (K : Int) by omega)
  have hKL : K + m = L + 1 := by omega
  have hmk := hid (fun W => make_limbs K (by omega) W)
  clear ha hb hc h4' hx hd s1 hL hn hla hle hn1 hK
  go_enter Tryz.func128, Tryz.ntmps128
  go_wp2_with fail
  refine (r1_Order _ _ _ a b HA.out HB.out).mono ?_; rintro e w1 ⟨rfl, hb1⟩
  have d1 := (hb1.cell (p := ⟨g, o + (m - 1), none⟩) hg).trans HC.out
  have B1 := hid hb1; clear hb1
  obtain ⟨t, ht⟩ : ∃ t, ordN a b = t := ⟨_, rfl⟩
  rw [ht] at hord ⊢
  have q0 : decide (t < 0) = false := by simp; omega
  clear ht hord
  go_wp2_with fail
  rw [hdI.out]
  refine (r1_scaled _ _ a d (HA.out.call B1.out) s3 HLA.out).mono ?_; rintro e w2 ⟨⟨gu, ou, rfl, hgu, hAu, lu, su, vu⟩, hb2⟩
  have B2 := hid (bnext B1.out hb2); have AU := hid hAu; have LU := hid lu; have SU := hid su; have VU := hid vu
  have hul := hAu.lt
  rw [HL.out] at LU ⊢
  clear hAu lu su vu d1
  go_wp2_with fail
  refine (r1_scaled _ _ b d (HB.out.call B2.out) s3 (by rw [HN.out]; omega)).mono ?_; rintro e w3 ⟨⟨gv, ov, rfl, hgv, hAv, lv, sv, vv⟩, hb3⟩
  have B3 := hid (bnext B2.out hb3); have AU3 := hid (AU.out.call hb3)
  have hne : gv ≠ gu := by omega
  have LV := hid lv; have VV := hid vv; have SV := hid sv
  clear lv vv sv
  go_wp2_with fail
  rw [← LV.out]
  refine (r1_trim_at _ _ _ ov SV.out (by have := hAv.row (n := ov.length) (c := ov.length) (Nat.le_refl _) (Nat.le_refl _) (by rw [LV.out, HN.out]; unfold maxLen; omega); rwa [List.take_of_length_le (Nat.le_refl _)] at this)).mono ?_
  rintro e w4 ⟨⟨m', rfl, hm'⟩, rfl⟩
  rw [VV.out] at hm'
  have hmm : m' = m := by have := hm'.len.1; rw [ints_length, HS.out] at this; exact this
  subst hmm
  have RV := hid hm'
  have hvl := hAv.lt
  clear hAv hm' AU
  have y1 := hKI.out; have y2 := hmk.out
  go_wp2_with fail
  clear y1 y2
  have hV := hid (val_limbs (b * d))
  have D0 := hid (show DivI (a * d) (b * d) m' (L + 1) K ou (List.replicate K 0) from by
    have h1 : 1000000000 ^ (m' - 1) ≤ b := limbs_lt_length.1 (by rw [HN.out]; omega)
    have h2 : b * d ≤ 1000000000 ^ m' := Nat.le_of_lt (limbs_length_le.1 (by rw [HS.out]; exact Nat.le_refl _))
    have h3 : a < 1000000000 ^ L := limbs_length_le.1 (by rw [HL.out]; exact Nat.le_refl _)
    have := DivI.start (U := a * d) (V := b * d) (n := m') h2 SU.out LU.out (by omega) VU.out (scaled_top LU.out VU.out h3 (by omega) (by omega) h1 s2)
    rwa [show L + 1 - m' = K by omega] at this)
  go_loopw [13] (fun jj wr => ∃ (k : Nat) (t : Int) (o Q : List Nat), jj = .int .i64 t ∧ t = (k : Int) - 1 ∧ k ≤ K ∧ Hid (DivI (a * d) (b * d) m' (L + 1) k o Q) ∧ Hid (Arr .i64 3 wr gu o) ∧ Hid (Arr .i64 3 wr w3.heap.size Q) ∧ Hid (Row wr (.slice (some ⟨gv, 0, none⟩) m' ov.length) (ints .i64 (limbs (b * d)))) ∧ Hid (Below w.heap.size w wr)) (fun jj _ => (intOf jj + 1).toNat)
  case atStart =>
    have ha : Below w3.heap.size w3 (w3.alloc (.cells (madeCells #[.int .i64 0] K) 3)) := (Below.refl _ _).alloc (Nat.le_refl _) _
    exact ⟨K, _, ou, _, rfl, rfl, Nat.le_refl _, D0, AU3.out.call ha, Arr.made w3 .i64 3 K, RV.out.call ha, bnext B3.out ha⟩
  case round =>
    obtain ⟨k, t, o2, Q, rfl, ht, hk, hD, hU, hQ, hR, hB⟩ := hrel
    have hol := hid hD.out.lo
    have hql := hid (show Q.length = K from by rw [hD.out.lq]; omega)
    cases k with
    | zero =>
      obtain rfl : t = -1 := by omega
      clear ht
      obtain ⟨r1, r2, r3⟩ := hD.out.done (by omega)
      have hfin := hid (div_end (a := a) (b := b) s2 r1 r2)
      have R3 := hid r3
      have hlen : (limbs (val (o2.take m'))).length ≤ 1000000 := by
        rw [r3]
        have := limbs_length_mono (Nat.le_of_lt r2)
        rw [HS.out] at this
        omega
      clear r1 r2 r3
      go_wp2_with fail
      refine (r1_trim _ _ (o2.take m') (hD.out.so.take _) (hU.out.row (by rw [hol.out]; omega) (by omega) (by unfold maxLen; omega))).mono ?_
      rintro e w5 ⟨⟨v5, rfl, hv5⟩, rfl⟩
      go_wp2_with fail
      refine (r1_short _ v5 _ d hv5 s2 s3 hlen).mono ?_
      rintro e w6 ⟨⟨v6, rfl, hv6⟩, hb6⟩
      have V6 := hid hv6; have B6 := hid hb6; have Q6 := hid (hQ.out.call hb6)
      clear hv5 hv6 hb6
      go_wp2_with fail
      refine (r1_trim _ _ Q hD.out.sq (by have := Q6.out.row (n := K) (c := K) (by rw [hql.out]; exact Nat.le_refl _) (Nat.le_refl _) (by unfold maxLen; omega); rwa [List.take_of_length_le (by rw [hql.out]; exact Nat.le_refl _)] at this)).mono ?_
      rintro e w7 ⟨⟨v7, rfl, hv7⟩, rfl⟩
      go_wp2_with fail
      go_ret2
      refine ⟨⟨v7, v6, rfl, by rw [← hfin.out.1]; exact hv7, ?_⟩, bnext hB.out B6.out⟩
      have := V6.out
      rwa [R3.out, hfin.out.2] at this
    | succ j =>
      obtain rfl : t = (j : Int) := by omega
      clear ht
      have hS := hid (show StepIn o2 (limbs (b * d)) j m' from ⟨hm2, by omega, HS.out, by rw [hol.out]; omega, by rw [hol.out]; omega, hD.out.so, sm_limbs _, limbs_top (n := m' - 1) (by rw [HS.out]; omega), by rw [hV.out]; exact hD.out.win (by omega)⟩)
      obtain ⟨z, hz⟩ : ∃ z, Q[j]? = some z := ⟨_, List.getElem?_eq_getElem (by rw [hql.out]; omega)⟩
      have hgq : w3.heap.size ≠ gu := by omega
      have hgw : w.heap.size ≤ gu := Nat.le_trans B1.out.size hgu
      have hqw : w.heap.size ≤ w3.heap.size := B3.out.size
      go_wp2_with fail
      rw [show j + m' + 1 - j = m' + 1 by omega]
      refine (r1_step _ gu j _ o2 gv 0 _ (limbs (b * d)) m' hS.out hU.out hR.out hne).mono ?_
      rintro e w5 ⟨he, o5, hw5, hA5, hg5⟩
      rw [hV.out] at he hw5
      have HN5 := hid (hD.out.next (by omega) hw5)
      obtain ⟨qv, hqv⟩ : ∃ q, val ((o2.drop j).take (m' + 1)) / (b * d) = q := ⟨_, rfl⟩
      rw [hqv] at he HN5
      subst he
      have Q5 := hid (hQ.out.gb hg5 hgq)
      have R5 := hid (hR.out.gb hg5 hne)
      have B5 := hid (below_gb hB.out hB.out.size hg5 hgw)
      have A5 := hid hA5
      have d3 := Q5.out.cell hz
      have d4 := Q5.out.free j
      clear hw5 hA5 hg5 hqv hz
      go_wp2_with fail
      go_roundw
      case rel =>
        have hs : Below w5.heap.size w5 w5 := Below.refl _ _
        have hset : w5.grownBy (w5.setCell ⟨w3.heap.size, j, none⟩ (.int .i64 (qv : Int))) (some w3.heap.size) := gb_set (World.grownBy.refl _ _) _ _
        exact ⟨j, _, o5, _, rfl, rfl, by omega, HN5, A5.out.gb hset (fun e => hgq e.symm), Q5.out.set j qv, R5.out.gb hset (by omega), below_set B5.out hqw _⟩
      case measure => simp [intOf] <;> omega
theorem r1_Divide (w : World) (v u : Value) (a b : Nat) (ha : IsN .i64 w v a) (hb : IsN .i64 w u b) (h0 : 0 < b) (hla : (limbs a).length ≤ 1000000) :
    Calls Tryz.prog 128 #[v, u] w fun e w' => RetNN .i64 (a / b) (a % b) e w' ∧ Below w.heap.size w w' := by
  by_cases hlt : a < b
  · exact divide_less w v u a b ha hb hlt
  · by_cases h1 : b < 1000000000
    · exact divide_one w v u a b ha hb (by omega) h0 h1 hla
    · refine divide_many w v u a b _ ha hb (by omega) rfl ?_ hla
      have : 1 < (limbs b).length := limbs_lt_length.2 (by omega)
      omega
end Go.Proofs.YtccalhlhdiapiaaGreatDoor
namespace Go.Proofs.YtccalhlhdiapiaaGreatDoor
open Go.RowKit
set_option linter.unusedVariables false
set_option maxHeartbeats 2000000 in
theorem r1_Common (w : World) (v u : Value) (a b : Nat) (ha : IsN .i64 w v a) (hb : IsN .i64 w u b) (hla : (limbs a).length ≤ 1000000) (hlb : (limbs b).length ≤ 1000000) :
    Calls Tryz.prog 117 #[v, u] w fun e w' => RetN .i64 (Nat.gcd a b) e w' ∧ Below w.heap.size w w' := by
  have HA := hid ha; have HB := hid hb; have LA := hid hla; have LB := hid hlb
  clear ha hb hla hlb
  go_enter Tryz.func117, Tryz.ntmps117
  go_wp2_with fail
  go_loopw [0, 1, 5, 6] (fun x y q r wr => ∃ m n : Nat, Hid (IsN .i64 wr x m) ∧ Hid (IsN .i64 wr y n) ∧ Hid ((limbs m).length ≤ 1000000) ∧ Hid ((limbs n).length ≤ 1000000) ∧ Hid (Nat.gcd m n = Nat.gcd a b) ∧ Hid (Below w.heap.size w wr))
    (fun x y q r wr => numOf .i64 wr y)
  case atStart => exact ⟨a, b, HA, HB, LA, LB, rfl, Below.refl _ _⟩
  case round =>
    obtain ⟨m, n, hx, hy, hm, hn, hg, hB⟩ := hrel
    have hnum := hid (numOf_eq hy.out)
    obtain ⟨a1, c1, rfl, h1, h1', h1''⟩ := hx.out.openI
    obtain ⟨a2, c2, rfl, h2, h2', h2''⟩ := hy.out.openI
    clear h1'' h2''
    by_cases h0 : n = 0
    · subst h0
      have hl : (limbs 0).length = 0 := by rw [limbs_zero]; rfl
      rw [hl] at *
      clear hl
      go_wp2_with fail
      go_ret
      exact ⟨⟨_, rfl, by rw [← hg.out, Nat.gcd_zero_right]; exact hx.out⟩, hB.out⟩
    · have hpos : 0 < (limbs n).length := List.length_pos_iff.2 (fun e => h0 (limbs_nil.1 e))
      have q0 : decide ((0 : Int) < ((limbs n).length : Int)) = true := by simp; omega
      go_wp2_with fail
      refine (r1_Divide _ _ _ m n hx.out hy.out (by omega) hm.out).mono ?_
      rintro e w1 ⟨⟨v1, v2, rfl, hv1, hv2⟩, hb1⟩
      have V2 := hid hv2; have B1 := hid (bnext hB.out hb1); have Y1 := hid (hy.out.call hb1)
      have hlt := hid (Nat.mod_lt m (y := n) (by omega))
      have hll := hid (show (limbs (m % n)).length ≤ 1000000 from Nat.le_trans (limbs_length_mono (Nat.le_of_lt hlt.out)) hn.out)
      have hgg := hid (show Nat.gcd n (m % n) = Nat.gcd a b from by rw [← hg.out, Nat.gcd_comm m n, Nat.gcd_rec n m, Nat.gcd_comm]) 
      clear hv1 hv2 hb1
      go_wp2_with fail
      go_roundw
      case rel => exact ⟨n, m % n, Y1, V2, hn, hll, hgg, B1⟩
      case measure => rw [numOf_eq V2.out, hnum.out]; exact hlt.out
end Go.Proofs.YtccalhlhdiapiaaGreatDoor
namespace Go.Proofs.YtccalhlhdiapiaaGreatDoor
open Go.RowKit
open Go.Lib (decDigits nDigits)
set_option linter.unusedVariables false
theorem r2_one (w : World) : Calls Tryz.prog 42 #[] w fun e w' => RetN .i64 1 e w' ∧ Below w.heap.size w w' := by
  have H1 := hid (isN_one w)
  go_enter Tryz.func42, Tryz.ntmps42
  go_wp2_with fail
  go_ret
  exact ⟨⟨_, rfl, H1.out⟩, (Below.refl _ _).alloc (Nat.le_refl _) _⟩
set_option maxHeartbeats 1000000 in
theorem r2_Reduce (w : World) (m : Bool) (v u : Value) (n d : Nat) (hn : IsN .i64 w v n) (hd : IsN .i64 w u d) (h0 : 0 < d) (hln : (limbs n).length ≤ 1000000) (hld : (limbs d).length ≤ 1000000) :
    Calls Tryz.prog 84 #[.bool m, v, u] w fun e w' => RetQ .i64 (qmk m n d) e w' ∧ Below w.heap.size w w' := by
  have HN := hid hn; have HD := hid hd
  obtain ⟨a1, c1, rfl, _⟩ := hn.openI
  obtain ⟨a2, c2, rfl, _⟩ := hd.openI
  clear hn hd
  rcases Nat.eq_zero_or_pos n with rfl | hp
  · have hl : (limbs 0).length = 0 := by rw [limbs_zero]; rfl
    rw [hl] at HN ⊢
    have hq := hid (qmk_zero m d)
    rw [hq.out]
    clear hl
    go_enter Tryz.func84, Tryz.ntmps84
    go_wp2_with fail
    refine (r2_one _).mono ?_; rintro e w1 ⟨⟨v1, rfl, hv1⟩, hb1⟩
    obtain ⟨a3, c3, rfl, _⟩ := hv1.openI
    have HV := hid hv1
    have HB := hid (show Blk w1 w.heap.size #[.bool false, .slice none 0 0, .slice none 0 0] 68 from (Blk.new w _ _).call hb1)
    have d0 := HB.out.cell 0
    have d1 := HB.out.cell 1
    have d2 := HB.out.cell 2
    have e0 := HB.out.free 0
    have e1 := HB.out.free 1
    have e2 := HB.out.free 2
    have HBB := hid hb1
    clear hb1 hv1
    simp at d0 d1 d2
    go_wp2_with fail
    obtain ⟨s1, s2⟩ := set3 HB.out false none a3 0 0 (limbs 1).length c3
    have f0 := s2.cell 0
    have f1 := s2.cell 1
    have f2 := s2.cell 2
    simp at f0 f1 f2
    refine bodyPost_ret (v := .agg #[.bool false, .slice none 0 0, .slice a3 (limbs 1).length c3]) (by simp [results, Tryz.results84, go_sem, f0, f1, f2]) rfl ⟨⟨_, rfl, IsQ.zero_ (s1 _ _ _ (IsN.zero _ _)) (s1 _ _ _ HV.out)⟩, ?_⟩
    exact (((((Below.refl _ _).alloc (Nat.le_refl _) _).trans (HBB.out.mono (by simp))).setCell (Nat.le_refl _) _).setCell (Nat.le_refl _) _).setCell (Nat.le_refl _) _
  · have hpos : 0 < (limbs n).length := List.length_pos_iff.2 (fun e => by have := limbs_nil.1 e; omega)
    have q0 : (((limbs n).length : Int) == 0) = false := beq_eq_false_iff_ne.2 (by omega)
    obtain ⟨g, hg⟩ : ∃ g, Nat.gcd n d = g := ⟨_, rfl⟩
    have hgp : 0 < g := hg ▸ Nat.gcd_pos_of_pos_left d hp
    have HG := hid hg; have HGP := hid hgp; have HP := hid hp; have H0 := hid h0; have HLN := hid hln; have HLD := hid hld
    clear hg hgp hp h0 hln hld hpos
    go_enter Tryz.func84, Tryz.ntmps84
    go_wp2_with fail
    refine (r1_Common _ _ _ n d (HN.out.call ((Below.refl _ _).alloc (Nat.le_refl _) _)) (HD.out.call ((Below.refl _ _).alloc (Nat.le_refl _) _)) HLN.out HLD.out).mono ?_
    rintro e w1 ⟨⟨v1, rfl, hv1⟩, hb1⟩
    rw [HG.out] at hv1
    have HB1 := hid (show Blk w1 w.heap.size #[.bool false, .slice none 0 0, .slice none 0 0] 68 from (Blk.new w _ _).call hb1)
    have B1 := hid (((Below.refl w.heap.size w).alloc (Nat.le_refl _) (.cells #[.bool false, .slice none 0 0, .slice none 0 0] 68)).trans (hb1.mono (by simp)))
    have N1 := hid (HN.out.call B1.out); have D1 := hid (HD.out.call B1.out); have G1 := hid hv1
    clear hb1 hv1
    go_wp2_with fail
    refine (r1_Divide _ _ _ n g N1.out G1.out HGP.out HLN.out).mono ?_
    rintro e w2 ⟨⟨v2, v3, rfl, hv2, -⟩, hb2⟩
    have HB2 := hid (HB1.out.call hb2); have B2 := hid (bnext B1.out hb2); have D2 := hid (D1.out.call hb2); have G2 := hid (G1.out.call hb2); have V2 := hid hv2
    clear hb2 hv2
    go_wp2_with fail
    refine (r1_Divide _ _ _ d g D2.out G2.out HGP.out HLD.out).mono ?_
    rintro e w3 ⟨⟨v4, v5, rfl, hv4, -⟩, hb3⟩
    have HB3 := hid (HB2.out.call hb3); have B3 := hid (bnext B2.out hb3); have W2 := hid (V2.out.call hb3); have W4 := hid hv4
    clear hb3 hv4
    obtain ⟨a3, c3, rfl, _⟩ := W2.out.openI
    obtain ⟨a4, c4, rfl, _⟩ := W4.out.openI
    have d0 := HB3.out.cell 0
    have d1 := HB3.out.cell 1
    have d2 := HB3.out.cell 2
    have e0 := HB3.out.free 0
    have e1 := HB3.out.free 1
    have e2 := HB3.out.free 2
    simp at d0 d1 d2
    go_wp2_with fail
    obtain ⟨s1, s2⟩ := set3 HB3.out m a3 a4 (limbs (n / g)).length c3 (limbs (d / g)).length c4
    have f0 := s2.cell 0
    have f1 := s2.cell 1
    have f2 := s2.cell 2
    simp at f0 f1 f2
    refine bodyPost_ret (v := .agg #[.bool m, .slice a3 (limbs (n / g)).length c3, .slice a4 (limbs (d / g)).length c4]) (by simp [results, Tryz.results84, go_sem, f0, f1, f2]) rfl ⟨⟨_, rfl, IsQ.mk' HP.out H0.out (HG.out ▸ s1 _ _ _ W2.out) (HG.out ▸ s1 _ _ _ W4.out)⟩, ?_⟩
    exact ((B3.out.setCell (Nat.le_refl _) _).setCell (Nat.le_refl _) _).setCell (Nat.le_refl _) _
end Go.Proofs.YtccalhlhdiapiaaGreatDoor
namespace Go.Proofs.YtccalhlhdiapiaaGreatDoor
open Go.RowKit
open Go.Lib (decDigits nDigits)
set_option linter.unusedVariables false
structure Dig (K : Nat) (q : Rat) : Prop where
  n : q.num.natAbs < 10 ^ K
  d : q.den < 10 ^ K
theorem Dig.fits {K : Nat} {q : Rat} (h : Dig K q) (h0 : 0 < K) (hk : K ≤ 4000) : ¬ ovQ q := by
  unfold ovQ
  have h1 := nDigits_le h0 h.n
  have h2 := nDigits_le h0 h.d
  omega
theorem dig_mk {K : Nat} {z : Int} {d : Nat} (hd : 0 < d) (h1 : z.natAbs < 10 ^ K) (h2 : d < 10 ^ K) : Dig K (mkRat z d) := by
  refine ⟨?_, ?_⟩
  · rw [Rat.num_mkRat, if_neg (by omega)]
    exact Nat.lt_of_le_of_lt (Int.natAbs_ediv_le_natAbs _ _) h1
  · rw [Rat.den_mkRat, if_neg (by omega)]
    exact Nat.lt_of_le_of_lt (Nat.div_le_self _ _) h2
def t1 : ByteArray := ⟨#[49]⟩
theorem outB_fits {q : Rat} (h : ¬ ovQ q) : outB q = txQ q := if_neg h
end Go.Proofs.YtccalhlhdiapiaaGreatDoor
namespace Go.Proofs.YtccalhlhdiapiaaGreatDoor
open Go.RowKit
open Go.Lib (decDigits nDigits)
set_option linter.unusedVariables false
set_option linter.unusedSimpArgs false
theorem num_limbs {n : Nat} (h : nDigits n ≤ 4000) : (limbs n).length ≤ 1000000 := by
  exact Nat.le_trans (limbs_of_digits h) (by omega)
theorem qmk_le {a b : Nat} (h0 : b ≠ 0) : (qmk false a b).num.natAbs ≤ a ∧ (qmk false a b).den ≤ b := by
  unfold qmk
  constructor
  · rw [Rat.num_mkRat, if_neg h0]
    refine Nat.le_trans (Int.natAbs_ediv_le_natAbs _ _) ?_
    rw [sgn_natAbs]; exact Nat.le_refl _
  · rw [Rat.den_mkRat, if_neg h0]
    exact Nat.div_le_self _ _
set_option maxRecDepth 100000 in
set_option maxHeartbeats 1000000 in
theorem r2_Make_num (w : World) (a b : Nat) (ha : nDigits a ≤ 4000) (hb : nDigits b ≤ 4000) (h0 : b ≠ 0) :
    Calls Tryz.prog 37 #[.string (numB a), .string (numB b)] w fun e w' => e = .returned (.tuple #[.string (outB (qmk false a b)), .int .i64 (outE (qmk false a b))]) ∧ Below w.heap.size w w' := by
  have sa := numB_size a
  have sb := numB_size b
  have e1 : iM (numB a) = false := by
    unfold iM Lib.hasPrefix
    rw [numB_list]
    exact minus_dec a
  have e2 : iD (numB a) = numB a := iD_plain e1
  have e3 : iB (numB a) = true := by
    unfold iB
    rw [e1, e2, fB_num]; rfl
  have HI := fun V => hid (r2_integer V (numB a) (by omega))
  rw [e1, e2, e3] at HI
  have HC := fun V => hid (r1_Check V (numB b) (by omega))
  rw [errN_numB hb] at HC
  have HA := fun V => hid (r1_Read_num V a (by omega))
  have HB := fun V => hid (r1_Read_num V b (by omega))
  have la := num_limbs ha
  have lb := num_limbs hb
  have HR := fun V v u hn hd => hid (r2_Reduce V false v u a b hn hd (by omega) la lb)
  have dq : (limbs (qmk false a b).num.natAbs).length ≤ 1000000 ∧ (limbs (qmk false a b).den).length ≤ 1000000 := by
    obtain ⟨k1, k2⟩ := qmk_le (a := a) h0
    have := nDigits_mono k1
    have := nDigits_mono k2
    exact ⟨num_limbs (by omega), num_limbs (by omega)⟩
  have HW := fun V v h => hid (r2_Write V v (qmk false a b) h dq.1 dq.2)
  have hne := ne_lit (show ¬ numB b = ⟨[48].toArray⟩ from by rw [← numB_zero]; exact numB_ne h0)
  have q0 : decide ((4000 : Int) < ((numB a).size : Int)) = false := by simp; omega
  obtain ⟨oB, hB⟩ : ∃ x, outB (qmk false a b) = x := ⟨_, rfl⟩
  obtain ⟨oE, hE⟩ : ∃ x, outE (qmk false a b) = x := ⟨_, rfl⟩
  rw [hB, hE] at HW
  rw [hB, hE]
  generalize numB a = A at *
  generalize numB b = B at *
  clear e1 e2 e3 hB hE la lb dq sa sb ha hb h0
  go_enter Tryz.func37, Tryz.ntmps37
  go_wp2_with fail
  refine (HI _).out.mono ?_; rintro e w1 ⟨rfl, rfl⟩
  go_wp2_with fail
  refine (HC _).out.mono ?_; rintro e w2 ⟨rfl, rfl⟩
  go_wp2_with fail
  refine (HA _).out.mono ?_; rintro e w3 ⟨⟨v3, rfl, hv3⟩, hb3⟩
  have y3 := hid hb3; have N3 := hid hv3; clear hb3 hv3
  go_wp2_with fail
  refine (HB _).out.mono ?_; rintro e w4 ⟨⟨v4, rfl, hv4⟩, hb4⟩
  have y4 := hid (bnext y3.out hb4); have N4 := hid hv4; have M4 := hid (N3.out.call hb4); clear hb4 hv4
  go_wp2_with fail
  refine (HR _ _ _ M4.out N4.out).out.mono ?_; rintro e w5 ⟨⟨v5, rfl, hv5⟩, hb5⟩
  have y5 := hid (bnext y4.out hb5); have N5 := hid hv5; clear hb5
  obtain ⟨N, D, rfl, -, -⟩ := hv5.ex
  clear hv5
  go_wp2_with fail
  refine (HW _ _ N5.out).out.mono ?_; rintro e w6 ⟨rfl, hb6⟩
  have y6 := hid (bnext y5.out hb6); clear hb6
  go_wp2_with fail
  go_ret2
  exact ⟨rfl, y6.out⟩
end Go.Proofs.YtccalhlhdiapiaaGreatDoor
namespace Go.Proofs.YtccalhlhdiapiaaGreatDoor
open Go.RowKit Go.Shelf
open Go.Lib (decDigits nDigits)
set_option linter.unusedVariables false
set_option linter.unusedSimpArgs false
def Ap (x o : Value) (n : Nat) : Prop := n = 0 ∨ ∀ g, x.ownBlock = some g → o.ownBlock ≠ some g
theorem isN_lt {k : IntKind} {w : World} {v : Value} {n g : Nat} (h : IsN k w v n) (h0 : n ≠ 0) (hg : v.ownBlock = some g) : g < w.heap.size := by
  obtain ⟨a, c, rfl, h1, h2, h3⟩ := h.openI
  have hl : 0 < (limbs n).length := by
    rw [limbs_pos (by omega)]; simp
  obtain ⟨g', o, rfl, hg', hc⟩ := h3 0 _ (List.getElem?_eq_getElem hl)
  simp only [Value.ownBlock, Option.some.injEq] at hg
  omega
theorem isN_grown {k : IntKind} {w w' : World} {row : Option Nat} {v : Value} {n : Nat} (h : IsN k w v n) (hg : w.grownBy w' row) (hne : n = 0 ∨ ∀ g, v.ownBlock = some g → row ≠ some g) : IsN k w' v n := by
  obtain ⟨a, c, rfl, h1, h2, h3⟩ := h.ex
  rw [ints_length] at *
  refine ⟨a, c, by rw [ints_length], by rw [ints_length]; exact h1, h2, fun i x hx => ?_⟩
  obtain ⟨g, o, rfl, hg', hc⟩ := h3 i x hx
  rcases hne with rfl | hne
  · rw [limbs_zero] at hx; simp [ints] at hx
  · exact ⟨g, o, rfl, Nat.lt_of_lt_of_le hg' hg.size, hg.cell hc (fun e => hne g rfl e.symm)⟩
def NRow (w : World) (v : Value) (m : Nat) (f : Nat → Nat) : Prop := ∃ vs : List Value, vs.length = m ∧ Row w v vs ∧ ∀ j x, vs[j]? = some x → IsN .i64 w x (f j)
theorem NRow.call {w w' : World} {v : Value} {m : Nat} {f : Nat → Nat} (h : NRow w v m f) (hb : Below w.heap.size w w') : NRow w' v m f := by
  obtain ⟨vs, h1, h2, h3⟩ := h
  exact ⟨vs, h1, h2.call hb, fun j x hx => (h3 j x hx).call hb⟩
theorem NRow.open {w : World} {v : Value} {m : Nat} {f : Nat → Nat} (h : NRow w v m f) : ∃ a c, v = .slice a m c ∧ m ≤ c ∧ c ≤ 9223372036854775807 ∧ ∀ i, i < m → ∃ g o x, a = some ⟨g, o, none⟩ ∧ g < w.heap.size ∧ w.cell? ⟨g, o + i, none⟩ = some x ∧ IsN .i64 w x (f i) := by
  obtain ⟨vs, rfl, h2, h3⟩ := h
  obtain ⟨a, c, rfl, k1, k2, k3⟩ := h2.ex
  refine ⟨a, c, rfl, k1, by unfold maxLen at k2; omega, fun i hi => ?_⟩
  obtain ⟨x, hx⟩ : ∃ x, vs[i]? = some x := ⟨_, List.getElem?_eq_getElem hi⟩
  obtain ⟨g, o, e, q1, q2⟩ := k3 i x hx
  exact ⟨g, o, x, e, q1, q2, h3 i x hx⟩
def NOwn (B : Nat) (w : World) (v : Value) (m : Nat) (f : Nat → Nat) : Prop := ∃ vs : List Value, w.ownsRow B 59 1 v m vs ∧ ∀ j x, vs[j]? = some x → IsN .i64 w x (f j) ∧ Ap x v (f j)
theorem NOwn.nil (B : Nat) (w : World) (f : Nat → Nat) : NOwn B w (.slice none 0 0) 0 f := ⟨[], World.ownsRow_nil _ _ _ _, fun j x hx => by simp at hx⟩
theorem NOwn.next {B B' : Nat} {w w1 w3 : World} {v v3 x : Value} {m : Nat} {f : Nat → Nat} {o : Obj} {vs : List Value} (k1 : w.ownsRow B 59 1 v m vs) (k2 : ∀ j x, vs[j]? = some x → IsN .i64 w x (f j) ∧ Ap x v (f j)) (hb : Below w.heap.size w w1) (hx : IsN .i64 w1 x (f m)) (hB' : w.heap.size ≤ B') (hf : ∀ g, x.ownBlock = some g → B' ≤ g)
    (h3 : w3.ownsRow B 59 1 v3 (m + 1) (vs ++ [x])) (hg : (w1.alloc o).grownBy w3 v.ownBlock) (hat : v3.ownBlock = v.ownBlock ∨ v3.ownBlock = some (w1.alloc o).heap.size) : NOwn B w3 v3 (m + 1) f := by
  have c1 : (w1.alloc o).ownsRow B 59 1 v m vs := (k1.kept (below_grown hb none) (by cases hv : v.ownBlock <;> simp)).alloc o
  have hs : w1.heap.size ≤ (w1.alloc o).heap.size := by simp
  have hal : Below w1.heap.size w1 (w1.alloc o) := (Below.refl _ _).alloc (Nat.le_refl _) o
  refine ⟨vs ++ [x], h3, fun j y hy => ?_⟩
  have hl : vs.length = m := by have := k1.1; omega
  have key : IsN .i64 w1 y (f j) ∧ Ap y v (f j) := by
    by_cases hj : j < vs.length
    · rw [List.getElem?_append_left hj] at hy
      exact ⟨(k2 j y hy).1.call hb, (k2 j y hy).2⟩
    · rw [List.getElem?_append_right (by omega)] at hy
      have hj' : j - vs.length = 0 := by
        rcases Nat.eq_zero_or_pos (j - vs.length) with h | h
        · exact h
        · rw [List.getElem?_eq_none (by simp; omega)] at hy; cases hy
      rw [hj'] at hy
      obtain rfl : j = m := by omega
      simp at hy
      subst hy
      refine ⟨hx, .inr fun g hg' e => ?_⟩
      have := hf g hg'
      have := (k1.lt g e).2
      omega
  obtain ⟨q1, q2⟩ := key
  have q3 : IsN .i64 (w1.alloc o) y (f j) := q1.call hal
  refine ⟨isN_grown q3 hg q2, ?_⟩
  by_cases h0 : f j = 0
  · exact .inl h0
  · refine .inr fun g hg' => ?_
    rcases q2 with e | q2
    · exact absurd e h0
    · rcases hat with e | e
      · rw [e]; exact q2 g hg'
      · rw [e]
        intro e'
        injection e' with e'
        have := isN_lt q3 h0 hg'
        omega
theorem info_tl : (Tryz.prog.info? 59).map (fun i => (i.zero, i.size, i.bytes)) = some (some (.slice none 0 0), 1, 24) := by kernel_rfl
end Go.Proofs.YtccalhlhdiapiaaGreatDoor
namespace Go.Proofs.YtccalhlhdiapiaaGreatDoor
open Go.RowKit
set_option linter.unusedVariables false
set_option linter.unusedSimpArgs false
attribute [local go_sem] Oper.semAt_some
theorem wpIn_scope {n : Nat} {P : Program} {Q : Exit → Act → World → Prop} {a : Act} {w : World} {c : Code} (h : c.wpIn Fence.wide n P (Exit.noGoto Q) a w) : (Code.scope c).wpIn Fence.wide n P Q a w :=
  wpIn_wide.2 (wp_scope_straight (wpIn_wide.1 h))
theorem info_i64 : (Tryz.prog.info? 3).map (fun i => (i.zero, i.size, i.bytes)) = some (some (.int .i64 0), 1, 8) := by kernel_rfl
theorem owns_one {W : World} {b : Nat} {t : TypeId} {x : Value} (h : Blk W b #[x] t) : W.ownsRow b t 1 (.slice (some ⟨b, 0, none⟩) 1 1) 1 [x] :=
  ⟨rfl, .inr ⟨b, 1, #[x], rfl, Nat.le_refl _, h, Nat.le_refl _, by unfold maxLen; omega, rfl, rfl⟩⟩
theorem own_set {W : World} {base : Nat} {e : TypeId} {g n cap : Nat} {xs : List Value} (h : W.ownsRow base e 1 (.slice (some ⟨g, 0, none⟩) n cap) n xs) (i : Nat) (x : Value) : (W.setCell ⟨g, i, none⟩ x).ownsRow base e 1 (.slice (some ⟨g, 0, none⟩) n cap) n (xs.set i x) := by
  rcases h.2 with ⟨e1, _⟩ | ⟨g', cap', cur, e1, hb, hg, h1, h2, h3, h4⟩
  · simp at e1
  · simp at e1
    obtain ⟨rfl, rfl⟩ := e1
    refine ⟨by rw [List.length_set]; exact h.1, .inr ⟨g, cap, cur.setIfInBounds i x, rfl, hb, Blk.set hg i x, h1, h2, by simpa using h3, ?_⟩⟩
    rw [Array.toList_setIfInBounds, List.take_set, h4]
theorem own_slot {W : World} {base : Nat} {e : TypeId} {g n cap : Nat} {xs : List Value} (h : W.ownsRow base e 1 (.slice (some ⟨g, 0, none⟩) n cap) n xs) : base ≤ g ∧ g < W.heap.size ∧ (∀ i, W.frozen? ⟨g, i, none⟩ = false) ∧ (∀ (i : Nat) (x : Value), xs[i]? = some x → W.cell? ⟨g, i, none⟩ = some x) ∧ cap ≤ 9223372036854775807 ∧ n ≤ cap ∧ ∀ (t : TypeId) (cs : Array Value) (b : Nat), t ≠ e → Blk W b cs t → b ≠ g := by
  have hh := h
  rcases h.2 with ⟨e1, _⟩ | ⟨g', cap', cur, e1, hb, hg, h1, h2, h3, h4⟩
  · simp at e1
  · simp at e1
    obtain ⟨rfl, rfl⟩ := e1
    refine ⟨hb, (Array.getElem?_eq_some_iff.1 hg).1, fun i => Blk.free hg i, fun i x hx => ?_, by unfold maxLen at h2; omega, h1, ?_⟩
    · have := hh.cells rfl i x hx
      rw [Addr.add_lit, Nat.zero_add] at this
      exact this
    · rintro t cs b ht hB rfl
      have := (show W.heap[b]? = _ from hB).symm.trans hg
      simp at this
      exact ht this.2
end Go.Proofs.YtccalhlhdiapiaaGreatDoor
namespace Go.Proofs.YtccalhlhdiapiaaGreatDoor
open Go.RowKit Go.Shelf
set_option linter.unusedVariables false
set_option linter.unusedSimpArgs false
theorem own_below {w0 w w1 w3 : World} {t : TypeId} {v : Value} {m : Nat} {vs : List Value} {o : Obj} (h : w.ownsRow w0.heap.size t 1 v m vs) (h0 : Below w0.heap.size w0 w) (hb : Below w.heap.size w w1) (hg : (w1.alloc o).grownBy w3 v.ownBlock) : Below w0.heap.size w0 w3 := by
  have h1 : Below w0.heap.size w0 (w1.alloc o) := (h0.trans (hb.mono h0.size)).alloc (h0.trans (hb.mono h0.size)).size _
  refine h1.trans ⟨hg.os, hg.tape, hg.output, hg.size, fun j hj => hg.block j (Nat.lt_of_lt_of_le hj h1.size) fun e => ?_⟩
  have := (h.lt j e.symm).1
  omega
theorem isN_other {k : IntKind} {w : World} {v : Value} {n : Nat} {a : Addr} (h : IsN k w v n) (hne : n = 0 ∨ v.ownBlock ≠ some a.block) (x : Value) : IsN k (w.setCell a x) v n := by
  obtain ⟨a', c, rfl, h1, h2, h3⟩ := h.ex
  rw [ints_length] at *
  refine ⟨a', c, by rw [ints_length], by rw [ints_length]; exact h1, h2, fun i y hy => ?_⟩
  obtain ⟨g, o, rfl, hg', hc⟩ := h3 i y hy
  rcases hne with rfl | hne
  · rw [limbs_zero] at hy; simp [ints] at hy
  · refine ⟨g, o, rfl, by simpa [World.setCell] using hg', ?_⟩
    have hb : g ≠ a.block := fun e => hne (by rw [← e]; rfl)
    rw [← hc]
    unfold World.setCell World.cell?
    simp [Array.getElem?_modify, Ne.symm hb]
structure NTab (B : Nat) (w : World) (g m c : Nat) (f : Nat → Nat) : Prop where
  ex : ∃ vs, w.ownsRow B 59 1 (.slice (some ⟨g, 0, none⟩) m c) m vs ∧ ∀ j x, vs[j]? = some x → IsN .i64 w x (f j) ∧ (f j = 0 ∨ ∀ g', x.ownBlock = some g' → B ≤ g' ∧ g' ≠ g)
theorem NTab.slot {B : Nat} {w : World} {g m c : Nat} {f : Nat → Nat} (h : NTab B w g m c f) : B ≤ g ∧ g < w.heap.size ∧ m ≤ c ∧ c ≤ 9223372036854775807 ∧ ∀ i, w.frozen? ⟨g, i, none⟩ = false := by
  obtain ⟨vs, h1, h2⟩ := h.ex
  have hs := own_slot h1
  exact ⟨hs.1, hs.2.1, hs.2.2.2.2.2.1, hs.2.2.2.2.1, hs.2.2.1⟩
theorem NTab.call {B : Nat} {w w' : World} {g m c : Nat} {f : Nat → Nat} (h : NTab B w g m c f) (hb : Below w.heap.size w w') : NTab B w' g m c f := by
  obtain ⟨vs, h1, h2⟩ := h.ex
  exact ⟨vs, h1.kept (below_grown hb none) (by simp [Value.ownBlock]), fun j x hx => ⟨(h2 j x hx).1.call hb, (h2 j x hx).2⟩⟩
theorem NTab.at {B : Nat} {w : World} {g m c : Nat} {f : Nat → Nat} (h : NTab B w g m c f) {i : Nat} (hi : i < m) : ∃ x, w.cell? ⟨g, i, none⟩ = some x ∧ IsN .i64 w x (f i) ∧ (f i = 0 ∨ ∀ g', x.ownBlock = some g' → B ≤ g' ∧ g' ≠ g) := by
  obtain ⟨vs, h1, h2⟩ := h.ex
  have hl : vs.length = m := by have := h1.1; omega
  obtain ⟨x, hx⟩ : ∃ x, vs[i]? = some x := ⟨_, List.getElem?_eq_getElem (by omega)⟩
  exact ⟨x, (own_slot h1).2.2.2.1 i x hx, (h2 i x hx).1, (h2 i x hx).2⟩
theorem NTab.row {B : Nat} {w : World} {g m c : Nat} {f : Nat → Nat} (h : NTab B w g m c f) : NRow w (.slice (some ⟨g, 0, none⟩) m c) m f := by
  obtain ⟨vs, h1, h2⟩ := h.ex
  exact ⟨vs, by have := h1.1; omega, Row.of_owns h1, fun j x hx => (h2 j x hx).1⟩
theorem NTab.fn {B : Nat} {w : World} {g m c : Nat} {f f' : Nat → Nat} (h : NTab B w g m c f) (e : ∀ i, i < m → f i = f' i) : NTab B w g m c f' := by
  obtain ⟨vs, h1, h2⟩ := h.ex
  have hl : vs.length = m := by have := h1.1; omega
  refine ⟨vs, h1, fun j x hx => ?_⟩
  rw [← e j (by have := (List.getElem?_eq_some_iff.1 hx).1; omega)]
  exact h2 j x hx
theorem NTab.put {B : Nat} {w : World} {g m c n : Nat} {f : Nat → Nat} {x : Value} (h : NTab B w g m c f) (i : Nat) (hx : IsN .i64 w x n) (hne : n = 0 ∨ ∀ g', x.ownBlock = some g' → B ≤ g' ∧ g' ≠ g) : NTab B (w.setCell ⟨g, i, none⟩ x) g m c (fun j => if j = i then n else f j) := by
  obtain ⟨vs, h1, h2⟩ := h.ex
  refine ⟨vs.set i x, own_set h1 i x, fun j y hy => ?_⟩
  rw [List.getElem?_set] at hy
  by_cases hj : i = j
  · subst hj
    rw [if_pos rfl] at hy
    split at hy
    · obtain rfl := Option.some.inj hy
      rw [if_pos rfl]
      refine ⟨isN_other hx (hne.imp id fun e e' => (e _ e').2 rfl) _, hne⟩
    · cases hy
  · rw [if_neg hj] at hy
    rw [if_neg (fun e => hj e.symm)]
    obtain ⟨k1, k2⟩ := h2 j y hy
    exact ⟨isN_other k1 (k2.imp id fun e e' => (e _ e').2 rfl) _, k2⟩
theorem NTab.other {B : Nat} {w : World} {g m c : Nat} {f : Nat → Nat} (h : NTab B w g m c f) {a : Addr} (ha : a.block < B) (x : Value) : NTab B (w.setCell a x) g m c f := by
  obtain ⟨vs, h1, h2⟩ := h.ex
  refine ⟨vs, ?_, fun j y hy => ?_⟩
  · refine ⟨h1.1, ?_⟩
    rcases h1.2 with h0 | ⟨g', cap, cur, e, k1, k2, k3⟩
    · exact .inl h0
    · refine .inr ⟨g', cap, cur, e, k1, ?_, k3⟩
      have hg : g' ≠ a.block := by omega
      rw [← k2]
      unfold World.setCell
      simp [Array.getElem?_modify, Ne.symm hg]
  · obtain ⟨k1, k2⟩ := h2 j y hy
    exact ⟨isN_other k1 (k2.imp id fun e e' => by have := (e _ e').1; omega) _, k2⟩
theorem NTab.mono {B B' : Nat} {w : World} {g m c : Nat} {f : Nat → Nat} (h : NTab B w g m c f) (hB : B' ≤ B) : NTab B' w g m c f := by
  obtain ⟨vs, h1, h2⟩ := h.ex
  refine ⟨vs, ⟨h1.1, ?_⟩, fun j y hy => ?_⟩
  · rcases h1.2 with h0 | ⟨g', cap, cur, e, k1, k2, k3⟩
    · exact .inl h0
    · exact .inr ⟨g', cap, cur, e, by omega, k2, k3⟩
  · obtain ⟨k1, k2⟩ := h2 j y hy
    exact ⟨k1, k2.imp id fun e g' hg => ⟨by have := (e g' hg).1; omega, (e g' hg).2⟩⟩
theorem NTab.of {B : Nat} {w : World} {v : Value} {m : Nat} (h : NOwn B w v (m + 1) (fun _ => 0)) : ∃ g c, v = .slice (some ⟨g, 0, none⟩) (m + 1) c ∧ NTab B w g (m + 1) c (fun _ => 0) := by
  obtain ⟨vs, h1, h2⟩ := id h
  obtain ⟨g, c, rfl, k1, k2⟩ := h1.form (Nat.succ_pos m)
  exact ⟨g, c, rfl, vs, h1, fun j x hx => ⟨(h2 j x hx).1, .inl rfl⟩⟩
end Go.Proofs.YtccalhlhdiapiaaGreatDoor
namespace Go.Proofs.YtccalhlhdiapiaaGreatDoor
open Go.RowKit Go.Shelf
open Go.Lib (decDigits nDigits)
set_option linter.unusedVariables false
set_option linter.unusedSimpArgs false
theorem read_zero (V : World) : Calls Tryz.prog 40 #[.string ⟨#[48]⟩] V fun e w' => RetFr V.heap.size .i64 0 e w' ∧ Below V.heap.size V w' := by
  have := r1_Read_numF V 0 (Nat.le_trans (nDigits_le (k := 1) (by omega) (by omega)) (by omega))
  rwa [numB_zero] at this
theorem read_one (V : World) : Calls Tryz.prog 40 #[.string ⟨#[49]⟩] V fun e w' => RetFr V.heap.size .i64 1 e w' ∧ Below V.heap.size V w' := by
  have := r1_Read_numF V 1 (Nat.le_trans (nDigits_le (k := 1) (by omega) (by omega)) (by omega))
  rwa [numB_one] at this
set_option maxRecDepth 100000 in
set_option maxHeartbeats 2000000 in
theorem er_zeros (w : World) (n : Nat) (hn : n ≤ 1000) :
    Calls Tryz.prog 80 #[.int .i64 (n : Nat)] w fun e w' => (∃ g c, e = .returned (.slice (some ⟨g, 0, none⟩) (n + 1) c) ∧ NTab w.heap.size w' g (n + 1) c (fun _ => 0)) ∧ Below w.heap.size w w' := by
  obtain ⟨i0, hi, hz0, hz1, hz2⟩ := info_parts info_tl
  have HN := hid hn
  have HR := fun V => hid (read_zero V)
  go_enter Tryz.func80, Tryz.ntmps80
  go_wp2_with fail
  go_loopw [3, 4] (fun o ii wr => ∃ i : Nat, ii = .int .i64 i ∧ i ≤ n + 1 ∧ Hid (NOwn w.heap.size wr o i (fun _ => 0)) ∧ Hid (Below w.heap.size w wr)) (fun o ii wr => n + 1 - (intOf ii).toNat)
  case atStart => exact ⟨0, rfl, Nat.zero_le _, NOwn.nil _ _ _, Below.refl _ _⟩
  case round =>
    obtain ⟨i, rfl, hi', hO, hB⟩ := hrel
    by_cases hlt : i < n + 1
    · have d0 : decide ((i : Int) ≤ (n : Int)) = true := by simp; omega
      have d1 : decide (i ≤ n) = true := by simp; omega
      have wi : IntKind.i64.wrap ((i : Int) + 1) = ((i + 1 : Nat) : Int) := by rw [IntWalk.i64_in _ ⟨by omega, by omega⟩]; omega
      have IL := hid hlt
      clear hlt hi'
      go_wp2_with fail
      refine (HR _).out.mono ?_; rintro e wm ⟨⟨vm, rfl, hvm, hfm⟩, hbm⟩
      obtain ⟨am, cm, rfl, -, -, -⟩ := hvm.openI
      rw [show (limbs 0).length = 0 from by rw [limbs_zero]; rfl] at hvm hfm ⊢
      have VM := hid hvm; have BRM := hid hbm; have FM := hid hfm
      clear hvm hbm hfm
      obtain ⟨vs, HO0, HO1⟩ := id hO.out
      have HOO := hid HO0; have HO9 := hid HO1
      obtain ⟨ar, cr, rfl⟩ := owns_ex HO0
      clear HO0 HO1
      have hi9 := IL.out
      go_wp2_with (at_builtin; refine wpList_append_own_at _ rfl _ _ 83 rfl w.heap.size 59 i0 (.slice none 0 0) 1 24 Tryz.underlying83 hi hz0 hz1 hz2 rfl (by decide) _ i vs rfl ((HOO.out.kept (below_grown BRM.out none) (by cases ar <;> simp [Value.ownBlock])).alloc _) ⟨wm.heap.size, 0, none⟩ 1 1 [.slice am 0 cm] rfl rfl (cell_one_new wm (.slice am 0 cm) 59) (by simp [Value.oneCell']) (by unfold maxLen; omega) (by omega) (by have := hB.out.size; have := BRM.out.size; simp; omega) ?_; intro v' w5 hown hgrow _ hat; have HO5 := hid hown; have HG5 := hid hgrow; have HA5 := hid hat; clear hown hgrow hat)
      have N5 := hid (NOwn.next (f := fun _ => 0) HOO.out HO9.out BRM.out VM.out (Nat.le_refl _) FM.out HO5.out HG5.out HA5.out)
      have B5 := hid (own_below HOO.out hB.out BRM.out HG5.out)
      clear HO5 HG5 HA5 hi9
      go_wp2_with fail
      go_roundw
      case rel => exact ⟨i + 1, by go_num, by have := IL.out; omega, N5, B5⟩
      case measure => simp [intOf] <;> (have := IL.out; omega)
    · obtain rfl : i = n + 1 := by omega
      have d0 : decide (((n + 1 : Nat) : Int) ≤ (n : Int)) = false := by simp; omega
      have d1 : decide ((n : Int) + 1 ≤ (n : Int)) = false := by simp; omega
      obtain ⟨g, c, rfl, ht⟩ := NTab.of hO.out
      have HT := hid ht
      clear hlt hi' ht
      go_wp2_with fail
      go_ret
      exact ⟨⟨g, c, rfl, HT.out⟩, hB.out⟩
end Go.Proofs.YtccalhlhdiapiaaGreatDoor
namespace Go.Proofs.YtccalhlhdiapiaaGreatDoor
open Go.RowKit
set_option linter.unusedVariables false
def allW : Nat → List (List UInt8)
  | 0 => [[]]
  | n + 1 => (allW n).flatMap fun l => [l ++ [48], l ++ [49]]
theorem allW_len : ∀ {n : Nat} {l : List UInt8}, l ∈ allW n → l.length = n
  | 0, l, h => by simp [allW] at h; subst h; rfl
  | n + 1, l, h => by
    simp only [allW, List.mem_flatMap] at h
    obtain ⟨m, hm, hl⟩ := h
    have := allW_len hm
    simp at hl
    rcases hl with rfl | rfl <;> simp [this]
theorem allW_length : ∀ n, (allW n).length = 2 ^ n
  | 0 => rfl
  | n + 1 => by
    have h : ∀ L : List (List UInt8), (L.flatMap fun l => [l ++ [48], l ++ [49]]).length = 2 * L.length := fun L => by
      induction L with
      | nil => rfl
      | cons a r ih => rw [List.flatMap_cons, List.length_append, ih, List.length_cons]; simp; omega
    rw [allW, h, allW_length n, Nat.pow_succ]; omega
def sumN (c : Nat → Nat) : Nat → Nat
  | 0 => 0
  | i + 1 => sumN c i + c i
theorem sumN_congr {c d : Nat → Nat} : ∀ {N : Nat}, (∀ i, i < N → c i = d i) → sumN c N = sumN d N
  | 0, _ => rfl
  | N + 1, h => by rw [sumN, sumN, sumN_congr (fun i hi => h i (by omega)), h N (by omega)]
theorem sumN_add (c d : Nat → Nat) : ∀ N, sumN (fun i => c i + d i) N = sumN c N + sumN d N
  | 0 => rfl
  | N + 1 => by rw [sumN, sumN, sumN, sumN_add c d N]; omega
theorem sumN_zero : ∀ N, sumN (fun _ => 0) N = 0
  | 0 => rfl
  | N + 1 => by rw [sumN, sumN_zero N]
theorem sumN_one (j : Nat) : ∀ N, sumN (fun i => if j = i then 1 else 0) N = if j < N then 1 else 0
  | 0 => by simp [sumN]
  | N + 1 => by
    rw [sumN, sumN_one j N]
    by_cases h1 : j < N
    · rw [if_pos h1, if_neg (by omega), if_pos (by omega)]
    · rw [if_neg h1]
      by_cases h2 : j = N
      · rw [if_pos h2, if_pos (by omega)]
      · rw [if_neg h2, if_neg (by omega)]
theorem count_all {α : Type} (g : α → Bool × Nat) (N : Nat) : ∀ L : List α, (∀ x ∈ L, (g x).1 = true → (g x).2 < N) → sumN (fun i => L.countP (fun x => (g x).1 && decide ((g x).2 = i))) N + L.countP (fun x => !(g x).1) = L.length
  | [], _ => by simp [sumN_zero]
  | x :: r, h => by
    have ih := count_all g N r (fun y hy => h y (List.mem_cons_of_mem _ hy))
    simp only [List.countP_cons]
    rw [sumN_add, List.length_cons]
    cases hx : (g x).1
    · simp only [Bool.false_and, Bool.not_false, if_true]
      rw [show sumN (fun i => if false = true then 1 else 0) N = 0 by simpa using sumN_zero N]
      omega
    · have h1 := h x (List.mem_cons_self ..) hx
      simp only [Bool.true_and, decide_eq_true_eq]
      rw [sumN_one, if_pos h1]
      simp
      omega
end Go.Proofs.YtccalhlhdiapiaaGreatDoor
namespace Go.Proofs.YtccalhlhdiapiaaGreatDoor
set_option linter.unusedVariables false
theorem sumN_shift (f : Nat → Nat) : ∀ n, sumN f (n + 1) = f 0 + sumN (fun i => f (i + 1)) n
  | 0 => by simp [sumN]
  | n + 1 => by rw [sumN, sumN_shift f n, sumN]; omega
theorem sumN_mul (k : Nat) (f : Nat → Nat) : ∀ n, sumN (fun i => k * f i) n = k * sumN f n
  | 0 => rfl
  | n + 1 => by rw [sumN, sumN, sumN_mul k f n, Nat.mul_add]
theorem sumN_le {f g : Nat → Nat} : ∀ {n : Nat}, (∀ i, i < n → f i ≤ g i) → sumN f n ≤ sumN g n
  | 0, _ => Nat.le_refl _
  | n + 1, h => by
    rw [sumN, sumN]
    have := sumN_le (n := n) fun i hi => h i (by omega)
    have := h n (by omega)
    omega
theorem sumN_mono {f : Nat → Nat} {m n : Nat} (h : m ≤ n) : sumN f m ≤ sumN f n := by
  induction n with
  | zero => rw [show m = 0 by omega]; exact Nat.le_refl _
  | succ n ih =>
    rcases Nat.lt_or_ge n m with h1 | h1
    · rw [show m = n + 1 by omega]; exact Nat.le_refl _
    · have := ih h1; rw [sumN]; omega
theorem sumN_at {f : Nat → Nat} {i n : Nat} (h : i < n) : f i ≤ sumN f n := by
  have h1 : sumN f (i + 1) ≤ sumN f n := sumN_mono (by omega)
  rw [sumN] at h1; omega
def cvo (f g : Nat → Nat) (n : Nat) : Nat := sumN (fun s => f s * g (n - s)) (n + 1)
theorem cvo_congr {f f' g g' : Nat → Nat} {n : Nat} (h1 : ∀ s, s ≤ n → f s = f' s) (h2 : ∀ s, s ≤ n → g s = g' s) : cvo f g n = cvo f' g' n := by
  unfold cvo
  refine sumN_congr fun s hs => ?_
  rw [h1 s (by omega), h2 (n - s) (by omega)]
theorem flip_sum : ∀ (n : Nat) (a : Nat → Nat → Nat), sumN (fun s => a s (n - s)) (n + 1) = sumN (fun s => a (n - s) s) (n + 1)
  | 0, a => by simp [sumN]
  | n + 1, a => by
    have ih := flip_sum n fun x y => a (x + 1) y
    rw [sumN_shift]
    have e1 : sumN (fun i => a (i + 1) (n + 1 - (i + 1))) (n + 1) = sumN (fun s => a (s + 1) (n - s)) (n + 1) := sumN_congr fun i _ => by rw [show n + 1 - (i + 1) = n - i by omega]
    have e2 : sumN (fun s => a (n - s + 1) s) (n + 1) = sumN (fun s => a (n + 1 - s) s) (n + 1) := sumN_congr fun i hi => by rw [show n + 1 - i = n - i + 1 by omega]
    rw [e1, ih, e2]
    show _ = sumN (fun s => a (n + 1 - s) s) (n + 1) + a (n + 1 - (n + 1)) (n + 1)
    rw [Nat.sub_self, Nat.sub_zero]; omega
theorem cvo_comm (f g : Nat → Nat) (n : Nat) : cvo f g n = cvo g f n := by
  unfold cvo
  rw [flip_sum n fun x y => f x * g y]
  exact sumN_congr fun s _ => Nat.mul_comm _ _
theorem tri_sum : ∀ (n : Nat) (a : Nat → Nat → Nat → Nat), sumN (fun s => sumN (fun u => a u (s - u) (n - s)) (s + 1)) (n + 1) = sumN (fun u => sumN (fun t => a u t (n - u - t)) (n - u + 1)) (n + 1)
  | 0, a => by simp [sumN]
  | n + 1, a => by
    have ih := tri_sum n fun x y z => a (x + 1) y z
    have e1 : sumN (fun s => sumN (fun u => a u (s - u) (n + 1 - s)) (s + 1)) (n + 1 + 1) = sumN (fun s => a 0 s (n + 1 - s)) (n + 1 + 1) + sumN (fun s => sumN (fun u => a (u + 1) (s - u) (n - s)) (s + 1)) (n + 1) := by
      have h : ∀ s, sumN (fun u => a u (s - u) (n + 1 - s)) (s + 1) = a 0 s (n + 1 - s) + sumN (fun u => a (u + 1) (s - (u + 1)) (n + 1 - s)) s := fun s => by rw [sumN_shift, Nat.sub_zero]
      rw [sumN_congr (fun s _ => h s), sumN_add]
      congr 1
      rw [sumN_shift]
      simp only [sumN, Nat.zero_add]
      rw [← sumN]
      refine sumN_congr fun s _ => ?_
      rw [show sumN (fun u => a (u + 1) (s + 1 - (u + 1)) (n + 1 - (s + 1))) s + a (s + 1) (s + 1 - (s + 1)) (n + 1 - (s + 1)) = sumN (fun u => a (u + 1) (s + 1 - (u + 1)) (n + 1 - (s + 1))) (s + 1) from rfl]
      rw [show sumN (fun u => a (u + 1) (s - u) (n - s)) s + a (s + 1) (s - s) (n - s) = sumN (fun u => a (u + 1) (s - u) (n - s)) (s + 1) from rfl]
      refine sumN_congr fun u _ => ?_
      rw [show s + 1 - (u + 1) = s - u by omega, show n + 1 - (s + 1) = n - s by omega]
    rw [e1, ih, sumN_shift (fun u => sumN (fun t => a u t (n + 1 - u - t)) (n + 1 - u + 1))]
    congr 1
    refine sumN_congr fun u hu => ?_
    rw [show n + 1 - (u + 1) + 1 = n - u + 1 by omega]
    exact sumN_congr fun t _ => by rw [show n + 1 - (u + 1) - t = n - u - t by omega]
theorem cvo_assoc (f g h : Nat → Nat) (n : Nat) : cvo (cvo f g) h n = cvo f (cvo g h) n := by
  unfold cvo
  have e1 : sumN (fun s => sumN (fun s_1 => f s_1 * g (s - s_1)) (s + 1) * h (n - s)) (n + 1) = sumN (fun s => sumN (fun u => f u * g (s - u) * h (n - s)) (s + 1)) (n + 1) := sumN_congr fun s _ => by
    rw [Nat.mul_comm, ← sumN_mul]
    exact sumN_congr fun u _ => Nat.mul_comm _ _
  have e2 : sumN (fun s => f s * sumN (fun s_1 => g s_1 * h (n - s - s_1)) (n - s + 1)) (n + 1) = sumN (fun u => sumN (fun t => f u * g t * h (n - u - t)) (n - u + 1)) (n + 1) := sumN_congr fun s _ => by
    rw [← sumN_mul]
    exact sumN_congr fun u _ => by rw [Nat.mul_assoc]
  rw [e1, e2]
  exact tri_sum n fun x y z => f x * g y * h z
def chi (c : Nat → Bool) (j : Nat) : Nat := if c j = true then 1 else 0
theorem chi_le (c : Nat → Bool) (j : Nat) : chi c j ≤ 1 := by unfold chi; split <;> omega
def cvF (c : Nat → Bool) (f : Nat → Nat) : Nat → Nat → Nat
  | _, 0 => 0
  | j, n + 1 => (if c (j + 1) = true then f n else 0) + cvF c f (j + 1) n
theorem cvF_none {c : Nat → Bool} {f : Nat → Nat} : ∀ (n j : Nat), (∀ i, j < i → c i = false) → cvF c f j n = 0
  | 0, _, _ => rfl
  | n + 1, j, h => by
    rw [cvF, if_neg (by simp [h (j + 1) (by omega)]), cvF_none n (j + 1) fun i hi => h i (by omega)]
theorem cvF_sum (c : Nat → Bool) (f : Nat → Nat) : ∀ n j, cvF c f j n = sumN (fun i => chi c (j + i + 1) * f (n - (i + 1))) n
  | 0, j => rfl
  | n + 1, j => by
    rw [cvF, cvF_sum c f n (j + 1), sumN_shift]
    congr 1
    · unfold chi
      rw [show j + 0 + 1 = j + 1 by omega, show n + 1 - (0 + 1) = n by omega]
      split <;> simp
    · exact sumN_congr fun i _ => by rw [show j + 1 + i + 1 = j + (i + 1) + 1 by omega, show n - (i + 1) = n + 1 - (i + 1 + 1) by omega]
theorem cvo_chi (c : Nat → Bool) (f : Nat → Nat) (n : Nat) : cvo (chi c) f n = (if c 0 = true then f n else 0) + cvF c f 0 n := by
  unfold cvo
  rw [sumN_shift, cvF_sum]
  congr 1
  · unfold chi
    rw [Nat.sub_zero]
    split <;> simp
  · exact sumN_congr fun i _ => by rw [show 0 + i + 1 = i + 1 by omega]
def dlt (j : Nat) : Nat := if j = 0 then 1 else 0
theorem cvo_dlt (f : Nat → Nat) (n : Nat) : cvo dlt f n = f n := by
  unfold cvo
  rw [sumN_shift]
  have : sumN (fun i => dlt (i + 1) * f (n - (i + 1))) n = sumN (fun _ => 0) n := sumN_congr fun i _ => by unfold dlt; simp
  rw [this, sumN_zero]
  unfold dlt
  simp
def pw2 (j : Nat) : Nat := 2 ^ j
end Go.Proofs.YtccalhlhdiapiaaGreatDoor
namespace Go.Proofs.YtccalhlhdiapiaaGreatDoor
open Go.RowKit
def sdx (N D : Nat) : Nat → Nat × Bool
  | 0 => (N, decide (N ≠ 0))
  | j + 1 => if (sdx N D j).2 = true then (if D ≤ 2 * (sdx N D j).1 then (2 * (sdx N D j).1 - D, decide (2 * (sdx N D j).1 ≠ D)) else (2 * (sdx N D j).1, true)) else sdx N D j
def oneJ (N D : Nat) : Nat → Bool
  | 0 => false
  | j + 1 => (sdx N D j).2 && decide (D ≤ 2 * (sdx N D j).1)
def zeroJ (N D : Nat) : Nat → Bool
  | 0 => decide (N = 0)
  | j + 1 => (sdx N D j).2 && decide (2 * (sdx N D j).1 ≤ D)
theorem sdx_shut {N D j : Nat} (h : (sdx N D j).2 = false) : ∀ i, j ≤ i → (sdx N D i).2 = false
  | 0, hi => by rw [show j = 0 by omega] at h; exact h
  | i + 1, hi => by
    rcases Nat.lt_or_ge i j with h1 | h1
    · rw [← show j = i + 1 by omega]; exact h
    · have := sdx_shut h i h1
      rw [sdx, if_neg (by simp [this])]; exact this
theorem oneJ_shut {N D j : Nat} (h : (sdx N D j).2 = false) (i : Nat) (hi : j < i) : oneJ N D i = false := by
  cases i with
  | zero => rfl
  | succ i => rw [oneJ, sdx_shut h i (by omega)]; rfl
theorem zeroJ_shut {N D j : Nat} (h : (sdx N D j).2 = false) (i : Nat) (hi : j < i) : zeroJ N D i = false := by
  cases i with
  | zero => omega
  | succ i => rw [zeroJ, sdx_shut h i (by omega)]; rfl
theorem sdx_lt {N D : Nat} (h : N < D) : ∀ j, (sdx N D j).1 < D
  | 0 => h
  | j + 1 => by
    have := sdx_lt h j
    rw [sdx]
    split
    · split
      · dsimp only; omega
      · dsimp only; omega
    · exact this
def tabL (f : Nat → Bool) (n j : Nat) : List Value := (List.range (n + 1)).map fun i => .bool (decide (i < j) && f i)
@[simp] theorem tabL_length (f : Nat → Bool) (n j : Nat) : (tabL f n j).length = n + 1 := by simp [tabL]
theorem tabL_get {f : Nat → Bool} {n j i : Nat} (h : i ≤ n) : (tabL f n j)[i]? = some (.bool (decide (i < j) && f i)) := by simp [tabL, List.getElem?_range (show i < n + 1 by omega)]
theorem tabL_set {f : Nat → Bool} {n j : Nat} (h : j ≤ n) : (tabL f n j).set j (.bool (f j)) = tabL f n (j + 1) := by
  apply List.ext_getElem?
  intro i
  rw [List.getElem?_set]
  by_cases hi : j = i
  · subst hi
    rw [if_pos rfl, if_pos (by simp; omega), tabL_get h]
    simp
  · rw [if_neg hi]
    by_cases h2 : i ≤ n
    · rw [tabL_get h2, tabL_get h2]
      congr 2
      by_cases h3 : i < j
      · simp [h3, show i < j + 1 by omega]
      · simp [h3, show ¬ i < j + 1 by omega]
    · rw [List.getElem?_eq_none (by simp; omega), List.getElem?_eq_none (by simp; omega)]
theorem tabL_shut {f : Nat → Bool} {n j : Nat} (h : ∀ i, j ≤ i → f i = false) : ∀ k, j ≤ k → tabL f n k = tabL f n j := by
  intro k hk
  apply List.ext_getElem?
  intro i
  by_cases h2 : i ≤ n
  · rw [tabL_get h2, tabL_get h2]
    by_cases h3 : i < j
    · simp [h3, show i < k by omega]
    · simp [h i (by omega)]
  · rw [List.getElem?_eq_none (by simp; omega), List.getElem?_eq_none (by simp; omega)]
theorem tabL_skip {f : Nat → Bool} {n j : Nat} (h : f j = false) : tabL f n (j + 1) = tabL f n j := by
  apply List.ext_getElem?
  intro i
  by_cases h2 : i ≤ n
  · rw [tabL_get h2, tabL_get h2]
    by_cases h3 : i < j
    · simp [h3, show i < j + 1 by omega]
    · by_cases h4 : i = j
      · subst h4; simp [h]
      · simp [h3, show ¬ i < j + 1 by omega]
  · rw [List.getElem?_eq_none (by simp; omega), List.getElem?_eq_none (by simp; omega)]
theorem tabL_zero (f : Nat → Bool) (n : Nat) : tabL f n 0 = List.replicate (n + 1) (.bool false) := by
  apply List.ext_getElem?
  intro i
  by_cases h2 : i ≤ n
  · rw [tabL_get h2, List.getElem?_replicate, if_pos (by omega)]; simp
  · rw [List.getElem?_eq_none (by simp; omega), List.getElem?_eq_none (by simp; omega)]
def allB (f : Nat → Bool) (n : Nat) : List Value := (List.range (n + 1)).map fun i => .bool (f i)
theorem allB_get {f : Nat → Bool} {n i : Nat} (h : i ≤ n) : (allB f n)[i]? = some (.bool (f i)) := by simp [allB, List.getElem?_range (show i < n + 1 by omega)]
theorem tabL_full (f : Nat → Bool) (n : Nat) {j : Nat} (h : n < j) : tabL f n j = allB f n := by
  unfold allB
  apply List.ext_getElem?
  intro i
  by_cases h2 : i ≤ n
  · rw [tabL_get h2]
    simp [List.getElem?_range (show i < n + 1 by omega), show i < j by omega]
  · rw [List.getElem?_eq_none (by simp; omega), List.getElem?_eq_none (by simp; omega)]
end Go.Proofs.YtccalhlhdiapiaaGreatDoor
namespace Go.Proofs.YtccalhlhdiapiaaGreatDoor
open Go.RowKit
set_option linter.unusedVariables false
def cw : Nat → (List UInt8 → Bool) → Nat
  | 0, P => if P [] = true then 1 else 0
  | n + 1, P => cw n (fun l => P (48 :: l)) + cw n (fun l => P (49 :: l))
theorem cw_congr : ∀ {n : Nat} {P Q : List UInt8 → Bool}, (∀ l, l.length = n → P l = Q l) → cw n P = cw n Q
  | 0, P, Q, h => by rw [cw, cw, h [] rfl]
  | n + 1, P, Q, h => by
    rw [cw, cw, cw_congr (n := n) (fun l hl => h (48 :: l) (by simp [hl])), cw_congr (n := n) (fun l hl => h (49 :: l) (by simp [hl]))]
theorem cw_snoc : ∀ (n : Nat) (P : List UInt8 → Bool), cw (n + 1) P = cw n (fun l => P (l ++ [48])) + cw n (fun l => P (l ++ [49]))
  | 0, P => by simp [cw]
  | n + 1, P => by
    rw [cw, cw_snoc n, cw_snoc n, cw, cw]
    simp only [List.cons_append]
    omega
theorem countP_two (L : List (List UInt8)) (P : List UInt8 → Bool) : (L.flatMap fun l => [l ++ [48], l ++ [49]]).countP P = L.countP (fun l => P (l ++ [48])) + L.countP (fun l => P (l ++ [49])) := by
  induction L with
  | nil => rfl
  | cons a r ih =>
    rw [List.flatMap_cons, List.countP_append, ih]
    simp only [List.countP_cons, List.countP_nil]
    omega
theorem cw_all : ∀ (n : Nat) (P : List UInt8 → Bool), (allW n).countP P = cw n P
  | 0, P => by simp [allW, cw]
  | n + 1, P => by rw [allW, countP_two, cw_all n, cw_all n, ← cw_snoc]
theorem cw_true : ∀ n, cw n (fun _ => true) = 2 ^ n
  | 0 => rfl
  | n + 1 => by rw [cw, cw_true n, Nat.pow_succ]; omega
theorem cw_false : ∀ n, cw n (fun _ => false) = 0
  | 0 => rfl
  | n + 1 => by rw [cw, cw_false n]
def coinP (N D K T : Nat) (P1 P0 : List UInt8 → Bool) (l : List UInt8) : Bool :=
  (toss N D K T l).1 && (if (toss N D K T l).2.1 = 1 then P1 (l.drop (toss N D K T l).2.2) else P0 (l.drop (toss N D K T l).2.2))
theorem toss_set {N D K T : Nat} {l : List UInt8} (h : sdB N D K T = true) : toss N D K T l = (true, sdV N D K T, 0) := by
  unfold toss; rw [if_pos h]
theorem toss_cons {N D K T : Nat} {b : UInt8} {l : List UInt8} (h : sdB N D K T = false) : toss N D K T (b :: l) = ((toss N D (2 * K + (if b = 49 then 1 else 0)) (2 * T) l).1, (toss N D (2 * K + (if b = 49 then 1 else 0)) (2 * T) l).2.1, (toss N D (2 * K + (if b = 49 then 1 else 0)) (2 * T) l).2.2 + 1) := by
  rw [toss, if_neg (by simp [h])]
theorem toss_nil {N D K T : Nat} (h : sdB N D K T = false) : toss N D K T [] = (false, 0, 0) := by
  rw [toss, if_neg (by simp [h])]
theorem coinP_set1 {N D K T : Nat} {P1 P0 : List UInt8 → Bool} {l : List UInt8} (h : sdB N D K T = true) (hv : sdV N D K T = 1) : coinP N D K T P1 P0 l = P1 l := by
  unfold coinP; rw [toss_set h]; simp [hv]
theorem coinP_set0 {N D K T : Nat} {P1 P0 : List UInt8 → Bool} {l : List UInt8} (h : sdB N D K T = true) (hv : sdV N D K T = 0) : coinP N D K T P1 P0 l = P0 l := by
  unfold coinP; rw [toss_set h]; simp [hv]
theorem coinP_cons {N D K T : Nat} {P1 P0 : List UInt8 → Bool} {b : UInt8} {l : List UInt8} (h : sdB N D K T = false) : coinP N D K T P1 P0 (b :: l) = coinP N D (2 * K + (if b = 49 then 1 else 0)) (2 * T) P1 P0 l := by
  unfold coinP; rw [toss_cons h]; simp
theorem coinP_nil {N D K T : Nat} {P1 P0 : List UInt8 → Bool} (h : sdB N D K T = false) : coinP N D K T P1 P0 [] = false := by
  unfold coinP; rw [toss_nil h]; rfl
structure OpenC (N D K T j x : Nat) : Prop where
  eq : N * T = K * D + x
  pos : 0 < x
  lt : x < D
  at_ : sdx N D j = (x, true)
theorem OpenC.undec {N D K T j x : Nat} (h : OpenC N D K T j x) : sdB N D K T = false := by
  obtain ⟨h1, h2, h3, -⟩ := h
  unfold sdB
  rw [Bool.or_eq_false_iff, decide_eq_false_iff_not, decide_eq_false_iff_not]
  omega
theorem twice_eq {N D K T x b : Nat} (h : N * T = K * D + x) : N * (2 * T) = 2 * (K * D) + 2 * x ∧ (2 * K + b) * D = 2 * (K * D) + b * D := by
  constructor
  · rw [Nat.mul_left_comm, h]; omega
  · rw [Nat.add_mul, Nat.mul_assoc]
theorem cw_coin {N D : Nat} {P1 P0 : List UInt8 → Bool} : ∀ (n : Nat) {K T j x : Nat}, OpenC N D K T j x → cw n (coinP N D K T P1 P0) = cvF (oneJ N D) (fun m => cw m P1) j n + cvF (zeroJ N D) (fun m => cw m P0) j n
  | 0, K, T, j, x, h => by rw [cw, coinP_nil h.undec]; rfl
  | n + 1, K, T, j, x, h => by
    have hu := h.undec
    obtain ⟨h1, h2, h3, h4⟩ := h
    have c0 : cw n (fun l => coinP N D K T P1 P0 (48 :: l)) = cw n (coinP N D (2 * K + 0) (2 * T) P1 P0) := cw_congr fun l _ => by rw [coinP_cons hu]; rfl
    have c1 : cw n (fun l => coinP N D K T P1 P0 (49 :: l)) = cw n (coinP N D (2 * K + 1) (2 * T) P1 P0) := cw_congr fun l _ => by rw [coinP_cons hu]; rfl
    rw [cw, c0, c1, cvF, cvF]
    have e1 := (twice_eq (b := 0) h1).1
    have e2 : (2 * K + 0) * D = 2 * (K * D) := by rw [Nat.add_zero, Nat.mul_assoc]
    have e3 : (2 * K + 1) * D = 2 * (K * D) + D := by rw [Nat.add_mul, Nat.mul_assoc, Nat.one_mul]
    have eo : oneJ N D (j + 1) = decide (D ≤ 2 * x) := by rw [oneJ, h4]; simp
    have ez : zeroJ N D (j + 1) = decide (2 * x ≤ D) := by rw [zeroJ, h4]; simp
    rw [eo, ez]
    rcases Nat.lt_trichotomy (2 * x) D with hc | hc | hc
    · -- a 0 leaves it open, a 1 gives 0
      have hs : sdx N D (j + 1) = (2 * x, true) := by rw [sdx, h4]; simp; omega
      have ih := cw_coin (N := N) (D := D) (P1 := P1) (P0 := P0) n (K := 2 * K + 0) (T := 2 * T) (j := j + 1) (x := 2 * x) ⟨by omega, by omega, hc, hs⟩
      have hd : sdB N D (2 * K + 1) (2 * T) = true := by unfold sdB; rw [Bool.or_eq_true, decide_eq_true_eq, decide_eq_true_eq]; left; omega
      have hv : sdV N D (2 * K + 1) (2 * T) = 0 := by unfold sdV; rw [if_pos (by omega)]
      rw [ih, cw_congr (n := n) (P := coinP N D (2 * K + 1) (2 * T) P1 P0) (Q := P0) (fun l _ => coinP_set0 hd hv), if_neg (by simp; omega), if_pos (by simp; omega)]
      omega
    · -- both give a result
      have hs : (sdx N D (j + 1)).2 = false := by rw [sdx, h4]; simp [hc]
      have hd0 : sdB N D (2 * K + 0) (2 * T) = true := by unfold sdB; rw [Bool.or_eq_true, decide_eq_true_eq, decide_eq_true_eq]; right; omega
      have hv0 : sdV N D (2 * K + 0) (2 * T) = 1 := by unfold sdV; rw [if_neg (by omega)]
      have hd1 : sdB N D (2 * K + 1) (2 * T) = true := by unfold sdB; rw [Bool.or_eq_true, decide_eq_true_eq, decide_eq_true_eq]; left; omega
      have hv1 : sdV N D (2 * K + 1) (2 * T) = 0 := by unfold sdV; rw [if_pos (by omega)]
      rw [cw_congr (n := n) (P := coinP N D (2 * K + 0) (2 * T) P1 P0) (Q := P1) (fun l _ => coinP_set1 hd0 hv0), cw_congr (n := n) (P := coinP N D (2 * K + 1) (2 * T) P1 P0) (Q := P0) (fun l _ => coinP_set0 hd1 hv1), if_pos (by simp; omega), if_pos (by simp; omega), cvF_none n (j + 1) (fun i hi => oneJ_shut hs i hi), cvF_none n (j + 1) (fun i hi => zeroJ_shut hs i hi)]
      rfl
    · -- a 1 leaves it open, a 0 gives 1
      have hs : sdx N D (j + 1) = (2 * x - D, true) := by
        rw [sdx, h4]
        show (if true = true then (if D ≤ 2 * x then (2 * x - D, decide (2 * x ≠ D)) else (2 * x, true)) else (x, true)) = _
        rw [if_pos rfl, if_pos (by omega), decide_eq_true (by omega)]
      have ih := cw_coin (N := N) (D := D) (P1 := P1) (P0 := P0) n (K := 2 * K + 1) (T := 2 * T) (j := j + 1) (x := 2 * x - D) ⟨by omega, by omega, by omega, hs⟩
      have hd : sdB N D (2 * K + 0) (2 * T) = true := by unfold sdB; rw [Bool.or_eq_true, decide_eq_true_eq, decide_eq_true_eq]; right; omega
      have hv : sdV N D (2 * K + 0) (2 * T) = 1 := by unfold sdV; rw [if_neg (by omega)]
      rw [ih, cw_congr (n := n) (P := coinP N D (2 * K + 0) (2 * T) P1 P0) (Q := P1) (fun l _ => coinP_set1 hd hv), if_pos (by simp; omega), if_neg (by simp; omega)]
      omega
theorem cw_first {N D : Nat} (h : N < D) (n : Nat) (P1 P0 : List UInt8 → Bool) : cw n (coinP N D 0 1 P1 P0) = cvo (chi (oneJ N D)) (fun m => cw m P1) n + cvo (chi (zeroJ N D)) (fun m => cw m P0) n := by
  rw [cvo_chi, cvo_chi]
  have o0 : oneJ N D 0 = false := rfl
  rw [o0, if_neg (by simp)]
  by_cases h0 : N = 0
  · subst h0
    have hs : (sdx 0 D 0).2 = false := by simp [sdx]
    have hd : sdB 0 D 0 1 = true := by simp [sdB]
    have hv : sdV 0 D 0 1 = 0 := by simp [sdV]
    rw [cw_congr (n := n) (Q := P0) (fun l _ => coinP_set0 hd hv), show zeroJ 0 D 0 = true from by simp [zeroJ], if_pos rfl, cvF_none n 0 (fun i hi => oneJ_shut hs i hi), cvF_none n 0 (fun i hi => zeroJ_shut hs i hi)]
    omega
  · have hz : zeroJ N D 0 = false := by simp [zeroJ, h0]
    rw [hz, if_neg (by simp), cw_coin n (K := 0) (T := 1) (j := 0) (x := N) ⟨by omega, by omega, h, by simp [sdx, h0]⟩]
    omega
end Go.Proofs.YtccalhlhdiapiaaGreatDoor
namespace Go.Proofs
open Go.Shelf
def Tryz.lays145_ren : Go.Shelf.Ren := ⟨fun | 145 => 145 | 220 => 192 | 219 => 225 | 217 => 248 | 225 => 249 | 224 => 250 | 267 => 251 | 266 => 260 | 314 => 261 | n => n, fun | 9 => 9 | 4 => 4 | 59 => 159 | 3 => 3 | 5 => 5 | 46 => 114 | 146 => 163 | 51 => 162 | n => n, fun | 1 => 1 | n => n⟩
theorem Tryz.lays145 : Go.Proofs.Lays.n145 Tryz.prog Tryz.lays145_ren := {
  mixed := by kernel_rfl
  f145 := Tryz.func145.trans (congrArg some (by kernel_rfl))
  f217 := Tryz.func248.trans (congrArg some (by kernel_rfl))
  f219 := Tryz.func225.trans (congrArg some (by kernel_rfl))
  f220 := Tryz.func192.trans (congrArg some (by kernel_rfl))
  f224 := Tryz.func250.trans (congrArg some (by kernel_rfl))
  f225 := Tryz.func249.trans (congrArg some (by kernel_rfl))
  f266 := Tryz.func260.trans (congrArg some (by kernel_rfl))
  f267 := Tryz.func251.trans (congrArg some (by kernel_rfl))
  f314 := Tryz.func261.trans (congrArg some (by kernel_rfl))
  t3 := Tryz.underlying3
  a3 := Tryz.isAgg3
  z3 := Tryz.sizeOf3
  v3 := Tryz.zeroValue3
  t4 := Tryz.underlying4
  a4 := Tryz.isAgg4
  z4 := Tryz.sizeOf4
  v4 := Tryz.zeroValue4
  t5 := Tryz.underlying5
  a5 := Tryz.isAgg5
  z5 := Tryz.sizeOf5
  v5 := Tryz.zeroValue5
  t9 := Tryz.underlying9
  a9 := Tryz.isAgg9
  z9 := Tryz.sizeOf9
  v9 := Tryz.zeroValue9
  t46 := Tryz.underlying114
  a46 := Tryz.isAgg114
  z46 := Tryz.sizeOf114
  v46 := Tryz.zeroValue114
  t51 := Tryz.underlying162
  a51 := Tryz.isAgg162
  z51 := Tryz.sizeOf162
  v51 := Tryz.zeroValue162
  t59 := Tryz.underlying159
  a59 := Tryz.isAgg159
  z59 := Tryz.sizeOf159
  v59 := Tryz.zeroValue159
  t146 := Tryz.underlying163
  a146 := Tryz.isAgg163
  z146 := Tryz.sizeOf163
  v146 := Tryz.zeroValue163
  g1 := by kernel_rfl }
theorem Tryz.strings_Cut (s sep : ByteArray) (m : Int) (w : World) (hs : s.size < 4294967281) (hm : w.cell? ⟨1, 0, none⟩ = some (.int .i64 m)) :
    Calls Tryz.prog 145 #[.string s, .string sep] w fun e w' => e = .returned (.tuple #[.string ⟨(Lib.cut s.data.toList sep.data.toList).1.toArray⟩, .string ⟨(Lib.cut s.data.toList sep.data.toList).2.1.toArray⟩, .bool (Lib.cut s.data.toList sep.data.toList).2.2]) ∧ ∃ n, w' = w.drewN n := Any.strings_Cut Tryz.lays145 s sep m w hs hm
end Go.Proofs
namespace Go.Proofs.YtccalhlhdiapiaaGreatDoor
open Go.RowKit Go.Shelf
set_option linter.unusedVariables false
theorem l_cut (w : World) (s : ByteArray) (hs : s.size ≤ 100000000) (hL : Lay w) :
    Calls Tryz.prog 145 #[.string s, .string ⟨#[47]⟩] w fun e w' => e = .returned (.tuple #[.string (cW s), .string (cB s), .bool (cS s)]) ∧ Below w.heap.size w w' := by
  obtain ⟨m, hm⟩ := hL.max
  refine (Tryz.strings_Cut s ⟨#[47]⟩ m w (by omega) hm).mono ?_
  rintro e w' ⟨rfl, n, rfl⟩
  exact ⟨rfl, below_drewN (Below.refl _ _) n⟩
end Go.Proofs.YtccalhlhdiapiaaGreatDoor
namespace Go.Proofs.YtccalhlhdiapiaaGreatDoor
open Go.RowKit
set_option linter.unusedVariables false
def isZ (n : Nat) : Bool := decide (n = 0)
def isO (n : Nat) : Bool := decide (n = 1)
theorem isZ_iff {n : Nat} : isZ n = true ↔ n = 0 := by simp [isZ]
theorem isO_iff {n : Nat} : isO n = true ↔ n = 1 := by simp [isO]
theorem limbs_len_zero {n : Nat} : (limbs n).length = 0 ↔ n = 0 := by
  rw [List.length_eq_zero_iff]; exact limbs_nil
theorem l_Zero (w : World) (v : Value) (n : Nat) (h : IsN .u64 w v n) : Calls Tryz.prog 161 #[v] w fun e w' => e = .returned (.bool (isZ n)) ∧ w = w' := by
  obtain ⟨a, c, rfl, h1, h2, -⟩ := h.openI
  obtain ⟨L, hL⟩ : ∃ L, (limbs n).length = L := ⟨_, rfl⟩
  have hz : isZ n = ((L : Int) == 0) := by
    rw [Bool.eq_iff_iff, isZ_iff, beq_iff_eq]
    rw [← limbs_len_zero, hL]; omega
  have HZ := hid hz
  rw [hL]
  clear h hL hz h1
  go_enter Tryz.func161, Tryz.ntmps161
  go_wp2_with fail
  go_ret
  exact ⟨by rw [HZ.out]; first | rfl | simp, rfl⟩
theorem l_One (w : World) (v : Value) (n : Nat) (h : IsN .u64 w v n) : Calls Tryz.prog 163 #[v] w fun e w' => e = .returned (.bool (isO n)) ∧ w = w' := by
  obtain ⟨a, c, rfl, h1, h2, h3⟩ := h.openI
  by_cases hl : (limbs n).length = 1
  · obtain ⟨x, hx⟩ : ∃ x, (limbs n)[0]? = some x := ⟨_, List.getElem?_eq_getElem (by omega)⟩
    obtain ⟨g, o, rfl, hg, hc⟩ := h3 0 x hx
    rw [Nat.add_zero] at hc
    have hn : n = x := by
      have h4 : limbs n = [x] := by
        apply List.ext_getElem?
        intro i
        rcases i with _ | i
        · exact hx
        · rw [List.getElem?_eq_none (by omega)]; simp
      have := val_limbs n
      rw [h4] at this
      simpa [val_cons] using this.symm
    subst hn
    have HL := hid hl
    rw [hl]
    clear hl hx h3 h h1
    by_cases h1 : n = 1
    · subst h1
      go_enter Tryz.func163, Tryz.ntmps163
      go_wp2_with fail
      go_ret
      exact ⟨rfl, rfl⟩
    · have q1 : ((n : Int) == 1) = false := beq_eq_false_iff_ne.2 (by omega)
      have H1 := hid (show isO n = false by simp [isO, h1])
      clear h1
      go_enter Tryz.func163, Tryz.ntmps163
      go_wp2_with fail
      go_ret
      exact ⟨ret_bool (by rw [H1.out]), rfl⟩
  · obtain ⟨L, hL⟩ : ∃ L, (limbs n).length = L := ⟨_, rfl⟩
    have hn : isO n = false := by
      refine Bool.eq_false_iff.2 fun e => hl ?_
      rw [isO_iff.1 e, limbs_one]; rfl
    rw [hL] at hl ⊢
    have q1 : ((L : Int) == 1) = false := beq_eq_false_iff_ne.2 (by omega)
    have H1 := hid hn
    clear hl hn hL h h3 h1
    go_enter Tryz.func163, Tryz.ntmps163
    go_wp2_with fail
    go_ret
    exact ⟨ret_bool (by rw [H1.out]), rfl⟩
end Go.Proofs.YtccalhlhdiapiaaGreatDoor
namespace Go.Proofs.YtccalhlhdiapiaaGreatDoor
open Go.RowKit Go.Shelf
set_option linter.unusedVariables false
structure Cuts (s W B D : ByteArray) (S M I fb : Bool) : Prop where
  cut : ∀ w, Lay w → Calls Tryz.prog 145 #[.string s, .string ⟨#[47]⟩] w fun e w' => e = .returned (.tuple #[.string W, .string B, .bool S]) ∧ Below w.heap.size w w'
  int : ∀ w, Calls Tryz.prog 108 #[.string W] w fun e w' => e = .returned (.tuple #[.bool M, .string D, .bool I]) ∧ Below w.heap.size w w'
  form : ∀ w, Calls Tryz.prog 160 #[.string B] w fun e w' => e = .returned (.bool fb) ∧ Below w.heap.size w w'
theorem cuts_of (s : ByteArray) (hs : s.size ≤ 1000000) : Cuts s (cW s) (cB s) (iD (cW s)) (cS s) (iM (cW s)) (iB (cW s)) (fB (cB s)) := {
  cut := fun w hL => l_cut w s (by omega) hL
  int := fun w => f_Integer w (cW s) (by have := cW_size s; omega)
  form := fun w => l_form w (cB s) (by have := cB_size s; omega) }
set_option maxRecDepth 100000 in
set_option maxHeartbeats 4000000 in
theorem fp_bad (w : World) (s W B D : ByteArray) (S M I fb : Bool) (HL : Hid (Lay w)) (HC : Cuts s W B D S M I fb)
    (h : (I && (!S || (decide (D ≠ ⟨#[48]⟩) && fb && decide (B ≠ ⟨#[48]⟩) && decide (B ≠ ⟨#[49]⟩)))) = false) :
    Calls Tryz.prog 182 #[.string s] w fun e w' => e = .returned (.tuple #[.agg #[.bool false, .slice none 0 0, .slice none 0 0], .int .i64 3]) ∧ Below w.heap.size w w' := by
  have key : (I = false) ∨ (I = true ∧ S = true ∧ (D = ⟨#[48]⟩ ∨ (¬ D = ⟨#[48]⟩ ∧ (fb = false ∨ (fb = true ∧ (B = ⟨#[48]⟩ ∨ (¬ B = ⟨#[48]⟩ ∧ B = ⟨#[49]⟩))))))) := by
    by_cases h1 : D = ⟨#[48]⟩ <;> by_cases h2 : B = ⟨#[48]⟩ <;> by_cases h3 : B = ⟨#[49]⟩ <;> cases I <;> cases S <;> cases fb <;> simp [h1, h2, h3] at h ⊢
  have HK := hid HC
  clear HC h
  have t0 := hid (Blk.new w #[.bool false, .slice none 0 0, .slice none 0 0] 125)
  have t1 := hid ((Below.refl w.heap.size w).alloc (Nat.le_refl _) (.cells #[.bool false, .slice none 0 0, .slice none 0 0] 125))
  have t2 := hid (HL.out.call t1.out)
  rcases key with rfl | ⟨rfl, rfl, rfl | ⟨h1, rfl | ⟨rfl, rfl | ⟨h2, rfl⟩⟩⟩⟩
  · cases S
    all_goals
      go_enter Tryz.func182, Tryz.ntmps182
      go_wp2_with (first
        | (go_at_call 145; refine (HK.out.cut _ t2.out).mono ?_; rintro e w1 ⟨rfl, hb1⟩
           have x1 := hid (t0.out.call hb1)
           have y1 := hid (bnext t1.out hb1)
           clear hb1)
        | (go_at_call 108; refine (HK.out.int _).mono ?_; rintro e w2 ⟨rfl, hb2⟩
           have x2 := hid (x1.out.call hb2)
           have y2 := hid (bnext y1.out hb2)
           clear hb2
           have d0 := x2.out.cell 0
           have d1 := x2.out.cell 1
           have d2 := x2.out.cell 2
           have e0 := x2.out.free 0
           have e1 := x2.out.free 1
           have e2 := x2.out.free 2
           simp at d0 d1 d2)
        | (go_at_call 160; refine (HK.out.form _).mono ?_; rintro e w3 ⟨rfl, hb3⟩
           have x3 := hid (x2.out.call hb3)
           have y3 := hid (bnext y2.out hb3)
           clear hb3 d0 d1 d2 e0 e1 e2
           have d0 := x3.out.cell 0
           have d1 := x3.out.cell 1
           have d2 := x3.out.cell 2
           have e0 := x3.out.free 0
           have e1 := x3.out.free 1
           have e2 := x3.out.free 2
           simp at d0 d1 d2)
        | fail)
      first
        | (obtain ⟨s1, s2⟩ := set3 x3.out false none none 0 0 0 0
           have f0 := s2.cell 0
           have f1 := s2.cell 1
           have f2 := s2.cell 2
           simp at f0 f1 f2
           refine bodyPost_ret (v := .tuple #[.agg #[.bool false, .slice none 0 0, .slice none 0 0], .int .i64 3]) (by simp [results, Tryz.results182, go_sem, f0, f1, f2]) rfl ⟨rfl, ?_⟩
           exact ((y3.out.setCell (Nat.le_refl _) _).setCell (Nat.le_refl _) _).setCell (Nat.le_refl _) _)
        | (obtain ⟨s1, s2⟩ := set3 x2.out false none none 0 0 0 0
           have f0 := s2.cell 0
           have f1 := s2.cell 1
           have f2 := s2.cell 2
           simp at f0 f1 f2
           refine bodyPost_ret (v := .tuple #[.agg #[.bool false, .slice none 0 0, .slice none 0 0], .int .i64 3]) (by simp [results, Tryz.results182, go_sem, f0, f1, f2]) rfl ⟨rfl, ?_⟩
           exact ((y2.out.setCell (Nat.le_refl _) _).setCell (Nat.le_refl _) _).setCell (Nat.le_refl _) _)
  all_goals (try have i1 := ne_lit (l := [48]) h1)
  all_goals (try have i2 := ne_lit (l := [48]) h2)
  all_goals
    go_enter Tryz.func182, Tryz.ntmps182
    go_wp2_with (first
      | (go_at_call 145; refine (HK.out.cut _ t2.out).mono ?_; rintro e w1 ⟨rfl, hb1⟩
         have x1 := hid (t0.out.call hb1)
         have y1 := hid (bnext t1.out hb1)
         clear hb1)
      | (go_at_call 108; refine (HK.out.int _).mono ?_; rintro e w2 ⟨rfl, hb2⟩
         have x2 := hid (x1.out.call hb2)
         have y2 := hid (bnext y1.out hb2)
         clear hb2
         have d0 := x2.out.cell 0
         have d1 := x2.out.cell 1
         have d2 := x2.out.cell 2
         have e0 := x2.out.free 0
         have e1 := x2.out.free 1
         have e2 := x2.out.free 2
         simp at d0 d1 d2)
      | (go_at_call 160; refine (HK.out.form _).mono ?_; rintro e w3 ⟨rfl, hb3⟩
         have x3 := hid (x2.out.call hb3)
         have y3 := hid (bnext y2.out hb3)
         clear hb3 d0 d1 d2 e0 e1 e2
         have d0 := x3.out.cell 0
         have d1 := x3.out.cell 1
         have d2 := x3.out.cell 2
         have e0 := x3.out.free 0
         have e1 := x3.out.free 1
         have e2 := x3.out.free 2
         simp at d0 d1 d2)
      | fail)
    first
      | (obtain ⟨s1, s2⟩ := set3 x3.out false none none 0 0 0 0
         have f0 := s2.cell 0
         have f1 := s2.cell 1
         have f2 := s2.cell 2
         simp at f0 f1 f2
         refine bodyPost_ret (v := .tuple #[.agg #[.bool false, .slice none 0 0, .slice none 0 0], .int .i64 3]) (by simp [results, Tryz.results182, go_sem, f0, f1, f2]) rfl ⟨rfl, ?_⟩
         exact ((y3.out.setCell (Nat.le_refl _) _).setCell (Nat.le_refl _) _).setCell (Nat.le_refl _) _)
      | (obtain ⟨s1, s2⟩ := set3 x2.out false none none 0 0 0 0
         have f0 := s2.cell 0
         have f1 := s2.cell 1
         have f2 := s2.cell 2
         simp at f0 f1 f2
         refine bodyPost_ret (v := .tuple #[.agg #[.bool false, .slice none 0 0, .slice none 0 0], .int .i64 3]) (by simp [results, Tryz.results182, go_sem, f0, f1, f2]) rfl ⟨rfl, ?_⟩
         exact ((y2.out.setCell (Nat.le_refl _) _).setCell (Nat.le_refl _) _).setCell (Nat.le_refl _) _)
set_option maxRecDepth 100000 in
set_option maxHeartbeats 4000000 in
theorem fp_long (w : World) (s W B D : ByteArray) (S M fb : Bool) (HL : Hid (Lay w)) (HC : Cuts s W B D S M true fb)
    (h : S = false ∨ (S = true ∧ ¬ D = ⟨#[48]⟩ ∧ ¬ B = ⟨#[48]⟩ ∧ ¬ B = ⟨#[49]⟩ ∧ fb = true)) (hl : 4000 < D.size ∨ (¬ 4000 < D.size ∧ S = true ∧ 4000 < B.size)) :
    Calls Tryz.prog 182 #[.string s] w fun e w' => e = .returned (.tuple #[.agg #[.bool false, .slice none 0 0, .slice none 0 0], .int .i64 5]) ∧ Below w.heap.size w w' := by
  have HK := hid HC
  clear HC
  have t0 := hid (Blk.new w #[.bool false, .slice none 0 0, .slice none 0 0] 125)
  have t1 := hid ((Below.refl w.heap.size w).alloc (Nat.le_refl _) (.cells #[.bool false, .slice none 0 0, .slice none 0 0] 125))
  have t2 := hid (HL.out.call t1.out)
  rcases h with rfl | ⟨rfl, h1, h2, h3, rfl⟩
  · have q0 : decide ((4000 : Int) < (D.size : Int)) = true := by
      rcases hl with hl | ⟨_, hl, _⟩
      · simp; omega
      · cases hl
    clear hl
    go_enter Tryz.func182, Tryz.ntmps182
    go_wp2_with (first
      | (go_at_call 145; refine (HK.out.cut _ t2.out).mono ?_; rintro e w1 ⟨rfl, hb1⟩
         have x1 := hid (t0.out.call hb1)
         have y1 := hid (bnext t1.out hb1)
         clear hb1)
      | (go_at_call 108; refine (HK.out.int _).mono ?_; rintro e w2 ⟨rfl, hb2⟩
         have x2 := hid (x1.out.call hb2)
         have y2 := hid (bnext y1.out hb2)
         clear hb2
         have d0 := x2.out.cell 0
         have d1 := x2.out.cell 1
         have d2 := x2.out.cell 2
         have e0 := x2.out.free 0
         have e1 := x2.out.free 1
         have e2 := x2.out.free 2
         simp at d0 d1 d2)
      | (go_at_call 160; refine (HK.out.form _).mono ?_; rintro e w3 ⟨rfl, hb3⟩
         have x3 := hid (x2.out.call hb3)
         have y3 := hid (bnext y2.out hb3)
         clear hb3 d0 d1 d2 e0 e1 e2
         have d0 := x3.out.cell 0
         have d1 := x3.out.cell 1
         have d2 := x3.out.cell 2
         have e0 := x3.out.free 0
         have e1 := x3.out.free 1
         have e2 := x3.out.free 2
         simp at d0 d1 d2)
      | fail)
    first
      | (obtain ⟨s1, s2⟩ := set3 x3.out false none none 0 0 0 0
         have f0 := s2.cell 0
         have f1 := s2.cell 1
         have f2 := s2.cell 2
         simp at f0 f1 f2
         refine bodyPost_ret (v := .tuple #[.agg #[.bool false, .slice none 0 0, .slice none 0 0], .int .i64 5]) (by simp [results, Tryz.results182, go_sem, f0, f1, f2]) rfl ⟨rfl, ?_⟩
         exact ((y3.out.setCell (Nat.le_refl _) _).setCell (Nat.le_refl _) _).setCell (Nat.le_refl _) _)
      | (obtain ⟨s1, s2⟩ := set3 x2.out false none none 0 0 0 0
         have f0 := s2.cell 0
         have f1 := s2.cell 1
         have f2 := s2.cell 2
         simp at f0 f1 f2
         refine bodyPost_ret (v := .tuple #[.agg #[.bool false, .slice none 0 0, .slice none 0 0], .int .i64 5]) (by simp [results, Tryz.results182, go_sem, f0, f1, f2]) rfl ⟨rfl, ?_⟩
         exact ((y2.out.setCell (Nat.le_refl _) _).setCell (Nat.le_refl _) _).setCell (Nat.le_refl _) _)
  · have i1 := ne_lit (l := [48]) h1
    have i2 := ne_lit (l := [48]) h2
    have i3 := ne_lit (l := [49]) h3
    rcases hl with hl | ⟨hl, -, hl2⟩
    · have q0 : decide ((4000 : Int) < (D.size : Int)) = true := by simp; omega
      clear hl
      go_enter Tryz.func182, Tryz.ntmps182
      go_wp2_with (first
        | (go_at_call 145; refine (HK.out.cut _ t2.out).mono ?_; rintro e w1 ⟨rfl, hb1⟩
           have x1 := hid (t0.out.call hb1)
           have y1 := hid (bnext t1.out hb1)
           clear hb1)
        | (go_at_call 108; refine (HK.out.int _).mono ?_; rintro e w2 ⟨rfl, hb2⟩
           have x2 := hid (x1.out.call hb2)
           have y2 := hid (bnext y1.out hb2)
           clear hb2
           have d0 := x2.out.cell 0
           have d1 := x2.out.cell 1
           have d2 := x2.out.cell 2
           have e0 := x2.out.free 0
           have e1 := x2.out.free 1
           have e2 := x2.out.free 2
           simp at d0 d1 d2)
        | (go_at_call 160; refine (HK.out.form _).mono ?_; rintro e w3 ⟨rfl, hb3⟩
           have x3 := hid (x2.out.call hb3)
           have y3 := hid (bnext y2.out hb3)
           clear hb3 d0 d1 d2 e0 e1 e2
           have d0 := x3.out.cell 0
           have d1 := x3.out.cell 1
           have d2 := x3.out.cell 2
           have e0 := x3.out.free 0
           have e1 := x3.out.free 1
           have e2 := x3.out.free 2
           simp at d0 d1 d2)
        | fail)
      first
        | (obtain ⟨s1, s2⟩ := set3 x3.out false none none 0 0 0 0
           have f0 := s2.cell 0
           have f1 := s2.cell 1
           have f2 := s2.cell 2
           simp at f0 f1 f2
           refine bodyPost_ret (v := .tuple #[.agg #[.bool false, .slice none 0 0, .slice none 0 0], .int .i64 5]) (by simp [results, Tryz.results182, go_sem, f0, f1, f2]) rfl ⟨rfl, ?_⟩
           exact ((y3.out.setCell (Nat.le_refl _) _).setCell (Nat.le_refl _) _).setCell (Nat.le_refl _) _)
        | (obtain ⟨s1, s2⟩ := set3 x2.out false none none 0 0 0 0
           have f0 := s2.cell 0
           have f1 := s2.cell 1
           have f2 := s2.cell 2
           simp at f0 f1 f2
           refine bodyPost_ret (v := .tuple #[.agg #[.bool false, .slice none 0 0, .slice none 0 0], .int .i64 5]) (by simp [results, Tryz.results182, go_sem, f0, f1, f2]) rfl ⟨rfl, ?_⟩
           exact ((y2.out.setCell (Nat.le_refl _) _).setCell (Nat.le_refl _) _).setCell (Nat.le_refl _) _)
    · have q0 : decide ((4000 : Int) < (D.size : Int)) = false := by simp; omega
      have q1 : decide ((4000 : Int) < (B.size : Int)) = true := by simp; omega
      clear hl hl2
      go_enter Tryz.func182, Tryz.ntmps182
      go_wp2_with (first
        | (go_at_call 145; refine (HK.out.cut _ t2.out).mono ?_; rintro e w1 ⟨rfl, hb1⟩
           have x1 := hid (t0.out.call hb1)
           have y1 := hid (bnext t1.out hb1)
           clear hb1)
        | (go_at_call 108; refine (HK.out.int _).mono ?_; rintro e w2 ⟨rfl, hb2⟩
           have x2 := hid (x1.out.call hb2)
           have y2 := hid (bnext y1.out hb2)
           clear hb2
           have d0 := x2.out.cell 0
           have d1 := x2.out.cell 1
           have d2 := x2.out.cell 2
           have e0 := x2.out.free 0
           have e1 := x2.out.free 1
           have e2 := x2.out.free 2
           simp at d0 d1 d2)
        | (go_at_call 160; refine (HK.out.form _).mono ?_; rintro e w3 ⟨rfl, hb3⟩
           have x3 := hid (x2.out.call hb3)
           have y3 := hid (bnext y2.out hb3)
           clear hb3 d0 d1 d2 e0 e1 e2
           have d0 := x3.out.cell 0
           have d1 := x3.out.cell 1
           have d2 := x3.out.cell 2
           have e0 := x3.out.free 0
           have e1 := x3.out.free 1
           have e2 := x3.out.free 2
           simp at d0 d1 d2)
        | fail)
      first
        | (obtain ⟨s1, s2⟩ := set3 x3.out false none none 0 0 0 0
           have f0 := s2.cell 0
           have f1 := s2.cell 1
           have f2 := s2.cell 2
           simp at f0 f1 f2
           refine bodyPost_ret (v := .tuple #[.agg #[.bool false, .slice none 0 0, .slice none 0 0], .int .i64 5]) (by simp [results, Tryz.results182, go_sem, f0, f1, f2]) rfl ⟨rfl, ?_⟩
           exact ((y3.out.setCell (Nat.le_refl _) _).setCell (Nat.le_refl _) _).setCell (Nat.le_refl _) _)
        | (obtain ⟨s1, s2⟩ := set3 x2.out false none none 0 0 0 0
           have f0 := s2.cell 0
           have f1 := s2.cell 1
           have f2 := s2.cell 2
           simp at f0 f1 f2
           refine bodyPost_ret (v := .tuple #[.agg #[.bool false, .slice none 0 0, .slice none 0 0], .int .i64 5]) (by simp [results, Tryz.results182, go_sem, f0, f1, f2]) rfl ⟨rfl, ?_⟩
           exact ((y2.out.setCell (Nat.le_refl _) _).setCell (Nat.le_refl _) _).setCell (Nat.le_refl _) _)
end Go.Proofs.YtccalhlhdiapiaaGreatDoor
namespace Go.Proofs.YtccalhlhdiapiaaGreatDoor
open Go.RowKit Go.Shelf
theorem bN_limbs {s : ByteArray} (h : allDig s.data.toList) (hs : ¬ 4000 < s.size) : (limbs (bN s)).length ≤ 1000000 := by
  refine dv_limbs h ?_
  have : s.data.toList.length = s.size := Array.length_toList
  omega
theorem qD_false {s : ByteArray} (h : cS s = false) : qD s = ⟨#[49]⟩ := by simp [qD, h]
theorem qD_true {s : ByteArray} (h : cS s = true) : qD s = cB s := by simp [qD, h]
end Go.Proofs.YtccalhlhdiapiaaGreatDoor
namespace Go.Proofs.YtccalhlhdiapiaaGreatDoor
open Go.RowKit Go.Shelf
set_option linter.unusedVariables false
def IsF (w : World) (v : Value) (m : Bool) (n d : Nat) : Prop := ∃ N D, v = .agg #[.bool m, N, D] ∧ IsN .u64 w N n ∧ IsN .u64 w D d
def RetF (x : Int) (m : Bool) (n d : Nat) (e : Ending) (w' : World) : Prop := ∃ v, e = .returned (.tuple #[v, .int .i64 x]) ∧ (x = 0 → IsF w' v m n d) ∧ (x ≠ 0 → v = .agg #[.bool false, .slice none 0 0, .slice none 0 0])
theorem RetF.err {x : Int} {m : Bool} {n d : Nat} {w' : World} (h : x ≠ 0) : RetF x m n d (.returned (.tuple #[.agg #[.bool false, .slice none 0 0, .slice none 0 0], .int .i64 x])) w' := ⟨_, rfl, fun e => absurd e h, fun _ => rfl⟩
set_option maxRecDepth 100000 in
set_option maxHeartbeats 400000 in
theorem fp_frac (w : World) (s W B D : ByteArray) (M : Bool) (HL : Hid (Lay w)) (HC : Cuts s W B D true M true true)
    (h1 : ¬ D = ⟨#[48]⟩) (h2 : ¬ B = ⟨#[48]⟩) (h3 : ¬ B = ⟨#[49]⟩) (hl1 : ¬ 4000 < D.size) (hl2 : ¬ 4000 < B.size) (hd1 : allDig D.data.toList) (hd2 : allDig B.data.toList) :
    Calls Tryz.prog 182 #[.string s] w fun e w' => RetF (if Nat.gcd (bN D) (bN B) = 1 then 0 else 3) M (bN D) (bN B) e w' ∧ Below w.heap.size w w' := by
  obtain ⟨xc, hxc⟩ : ∃ x : Int, (if Nat.gcd (bN D) (bN B) = 1 then 0 else 3) = x := ⟨_, rfl⟩
  rw [hxc]
  have HXC := hid hxc
  clear hxc
  have HK := hid HC
  clear HC
  have t0 := hid (Blk.new w #[.bool false, .slice none 0 0, .slice none 0 0] 125)
  have t1 := hid ((Below.refl w.heap.size w).alloc (Nat.le_refl _) (.cells #[.bool false, .slice none 0 0, .slice none 0 0] 125))
  have t2 := hid (HL.out.call t1.out)
  have i1 := ne_lit (l := [48]) h1
  have i2 := ne_lit (l := [48]) h2
  have i3 := ne_lit (l := [49]) h3
  have q0 : decide ((4000 : Int) < (D.size : Int)) = false := by simp; omega
  have q1 : decide ((4000 : Int) < (B.size : Int)) = false := by simp; omega
  have L1 := hid (bN_limbs hd1 hl1)
  have L2 := hid (bN_limbs hd2 hl2)
  have P1 := fun W => hid (l_Parse W D hd1 (by omega))
  have P2 := fun W => hid (l_Parse W B hd2 (by omega))
  clear hd1 hd2 h1 h2 h3 hl1 hl2
  go_enter Tryz.func182, Tryz.ntmps182
  go_wp2_with (first
    | (go_at_call 145; refine (HK.out.cut _ t2.out).mono ?_; rintro e w1 ⟨rfl, hb1⟩
       have x1 := hid (t0.out.call hb1)
       have y1 := hid (bnext t1.out hb1)
       clear hb1)
    | (go_at_call 108; refine (HK.out.int _).mono ?_; rintro e w2 ⟨rfl, hb2⟩
       have x2 := hid (x1.out.call hb2)
       have y2 := hid (bnext y1.out hb2)
       clear hb2)
    | (go_at_call 160; refine (HK.out.form _).mono ?_; rintro e w3 ⟨rfl, hb3⟩
       have x3 := hid (x2.out.call hb3)
       have y3 := hid (bnext y2.out hb3)
       clear hb3)
    | fail)
  refine (P1 _).out.mono ?_; rintro e w4 ⟨⟨v4, rfl, hv4⟩, hb4⟩
  have x4 := hid (x3.out.call hb4)
  have y4 := hid (bnext y3.out hb4)
  have N4 := hid hv4
  clear hb4 hv4
  obtain ⟨a4, c4, rfl, _⟩ := N4.out.openI
  obtain ⟨k1, hk1⟩ : ∃ k, (limbs (dv D.data.toList)).length = k := ⟨_, rfl⟩
  rw [hk1] at N4 ⊢
  clear P1
  go_wp2_with fail
  refine (P2 _).out.mono ?_; rintro e w5 ⟨⟨v5, rfl, hv5⟩, hb5⟩
  have x5 := hid (x4.out.call hb5)
  have y5 := hid (bnext y4.out hb5)
  have N5 := hid (N4.out.call hb5)
  have D5 := hid hv5
  clear hb5 hv5
  obtain ⟨a5, c5, rfl, _⟩ := D5.out.openI
  obtain ⟨k2, hk2⟩ : ∃ k, (limbs (dv B.data.toList)).length = k := ⟨_, rfl⟩
  rw [hk2] at D5 ⊢
  clear P2
  go_wp2_with fail
  have z5 := hid (Blk.new w5 #[.bool M, .slice a4 k1 c4, .slice a5 k2 c5] 125)
  have b5 := hid ((Below.refl w5.heap.size w5).alloc (Nat.le_refl _) (.cells #[.bool M, .slice a4 k1 c4, .slice a5 k2 c5] 125))
  refine (l_Gcd _ _ _ _ _ (N5.out.call b5.out) (D5.out.call b5.out) L1.out L2.out).mono ?_
  rintro e w6 ⟨⟨v6, rfl, hv6⟩, hb6⟩
  have z6 := hid (z5.out.call hb6)
  have x6 := hid ((x5.out.call b5.out).call hb6)
  have y6 := hid (bnext (bnext y5.out b5.out) hb6)
  have N6 := hid ((N5.out.call b5.out).call hb6)
  have D6 := hid ((D5.out.call b5.out).call hb6)
  have G6 := hid hv6
  clear hb6 hv6
  obtain ⟨a6, c6, rfl, _⟩ := G6.out.openI
  go_wp2_with fail
  refine (l_One _ _ _ G6.out).mono ?_
  rintro e w7 ⟨rfl, rfl⟩
  by_cases hG : Nat.gcd (bN D) (bN B) = 1
  · have hO : isO (Nat.gcd (dv D.data.toList) (dv B.data.toList)) = true := isO_iff.2 hG
    have X0 := hid (show xc = 0 from by rw [← HXC.out, if_pos hG])
    rw [hO]
    have d0 := x6.out.cell 0
    have d1 := x6.out.cell 1
    have d2 := x6.out.cell 2
    have e0 := x6.out.free 0
    have e1 := x6.out.free 1
    have e2 := x6.out.free 2
    have g0 := z6.out.cell 0
    have g1 := z6.out.cell 1
    have g2 := z6.out.cell 2
    simp at d0 d1 d2 g0 g1 g2
    clear hO
    have HG := hid hG
    clear hG
    go_wp2_with fail
    obtain ⟨s1, s2⟩ := set3 x6.out M a4 a5 k1 c4 k2 c5
    have f0 := s2.cell 0
    have f1 := s2.cell 1
    have f2 := s2.cell 2
    simp at f0 f1 f2
    refine bodyPost_ret (v := .tuple #[.agg #[.bool M, .slice a4 k1 c4, .slice a5 k2 c5], .int .i64 0]) (by simp [results, Tryz.results182, go_sem, f0, f1, f2]) rfl ⟨by rw [X0.out]; exact ⟨_, rfl, fun _ => ⟨_, _, rfl, s1 _ _ _ N6.out, s1 _ _ _ D6.out⟩, fun h => absurd rfl h⟩, ?_⟩
    exact ((y6.out.setCell (Nat.le_refl _) _).setCell (Nat.le_refl _) _).setCell (Nat.le_refl _) _
  · have hO : isO (Nat.gcd (dv D.data.toList) (dv B.data.toList)) = false := by
      rw [Bool.eq_false_iff]
      exact fun h => hG (isO_iff.1 h)
    have X0 := hid (show xc = 3 from by rw [← HXC.out, if_neg hG])
    rw [hO]
    have d0 := x6.out.cell 0
    have d1 := x6.out.cell 1
    have d2 := x6.out.cell 2
    have e0 := x6.out.free 0
    have e1 := x6.out.free 1
    have e2 := x6.out.free 2
    simp at d0 d1 d2
    clear hO
    have HG := hid hG
    clear hG
    go_wp2_with fail
    obtain ⟨s1, s2⟩ := set3 x6.out false none none 0 0 0 0
    have f0 := s2.cell 0
    have f1 := s2.cell 1
    have f2 := s2.cell 2
    simp at f0 f1 f2
    refine bodyPost_ret (v := .tuple #[.agg #[.bool false, .slice none 0 0, .slice none 0 0], .int .i64 3]) (by simp [results, Tryz.results182, go_sem, f0, f1, f2]) rfl ⟨by rw [X0.out]; exact RetF.err (by decide), ?_⟩
    exact ((y6.out.setCell (Nat.le_refl _) _).setCell (Nat.le_refl _) _).setCell (Nat.le_refl _) _
end Go.Proofs.YtccalhlhdiapiaaGreatDoor
namespace Go.Proofs.YtccalhlhdiapiaaGreatDoor
open Go.RowKit Go.Shelf
set_option linter.unusedVariables false
set_option maxRecDepth 100000 in
set_option maxHeartbeats 4000000 in
theorem fp_int (w : World) (s W B D : ByteArray) (M fb : Bool) (HL : Hid (Lay w)) (HC : Cuts s W B D false M true fb)
    (hl1 : ¬ 4000 < D.size) (hd1 : allDig D.data.toList) :
    Calls Tryz.prog 182 #[.string s] w fun e w' => RetF 0 M (bN D) 1 e w' ∧ Below w.heap.size w w' := by
  have HK := hid HC
  clear HC
  have t0 := hid (Blk.new w #[.bool false, .slice none 0 0, .slice none 0 0] 125)
  have t1 := hid ((Below.refl w.heap.size w).alloc (Nat.le_refl _) (.cells #[.bool false, .slice none 0 0, .slice none 0 0] 125))
  have t2 := hid (HL.out.call t1.out)
  have q0 : decide ((4000 : Int) < (D.size : Int)) = false := by simp; omega
  have P1 := fun W => hid (l_Parse W D hd1 (by omega))
  have P2 := fun W => hid (l_Parse W ⟨#[49]⟩ (by intro b hb; simp at hb; subst hb; rfl) (Nat.succ_le_succ (Nat.zero_le _)))
  clear hd1 hl1
  go_enter Tryz.func182, Tryz.ntmps182
  go_wp2_with (first
    | (go_at_call 145; refine (HK.out.cut _ t2.out).mono ?_; rintro e w1 ⟨rfl, hb1⟩
       have x1 := hid (t0.out.call hb1)
       have y1 := hid (bnext t1.out hb1)
       clear hb1)
    | (go_at_call 108; refine (HK.out.int _).mono ?_; rintro e w2 ⟨rfl, hb2⟩
       have x2 := hid (x1.out.call hb2)
       have y2 := hid (bnext y1.out hb2)
       clear hb2)
    | fail)
  refine (P1 _).out.mono ?_; rintro e w4 ⟨⟨v4, rfl, hv4⟩, hb4⟩
  have x4 := hid (x2.out.call hb4)
  have y4 := hid (bnext y2.out hb4)
  have N4 := hid hv4
  clear hb4 hv4
  obtain ⟨a4, c4, rfl, _⟩ := N4.out.openI
  obtain ⟨k1, hk1⟩ : ∃ k, (limbs (dv D.data.toList)).length = k := ⟨_, rfl⟩
  rw [hk1] at N4 ⊢
  clear P1
  go_wp2_with fail
  refine (P2 _).out.mono ?_; rintro e w5 ⟨⟨v5, rfl, hv5⟩, hb5⟩
  have x5 := hid (x4.out.call hb5)
  have y5 := hid (bnext y4.out hb5)
  have N5 := hid (N4.out.call hb5)
  have D5 := hid (show IsN .u64 w5 v5 1 from hv5)
  clear hb5 hv5
  obtain ⟨a5, c5, rfl, _⟩ := D5.out.openI
  obtain ⟨k2, hk2⟩ : ∃ k, (limbs 1).length = k := ⟨_, rfl⟩
  rw [hk2] at D5 ⊢
  clear P2
  have z6 := hid (Blk.new w5 #[.bool M, .slice a4 k1 c4, .slice a5 k2 c5] 125)
  have b5 := hid ((Below.refl w5.heap.size w5).alloc (Nat.le_refl _) (.cells #[.bool M, .slice a4 k1 c4, .slice a5 k2 c5] 125))
  have x6 := hid (x5.out.call b5.out)
  have y6 := hid (bnext y5.out b5.out)
  have N6 := hid (N5.out.call b5.out)
  have D6 := hid (D5.out.call b5.out)
  have d0 := x6.out.cell 0
  have d1 := x6.out.cell 1
  have d2 := x6.out.cell 2
  have e0 := x6.out.free 0
  have e1 := x6.out.free 1
  have e2 := x6.out.free 2
  have g0 := z6.out.cell 0
  have g1 := z6.out.cell 1
  have g2 := z6.out.cell 2
  simp at d0 d1 d2 g0 g1 g2
  go_wp2_with fail
  obtain ⟨s1, s2⟩ := set3 x6.out M a4 a5 k1 c4 k2 c5
  have f0 := s2.cell 0
  have f1 := s2.cell 1
  have f2 := s2.cell 2
  simp at f0 f1 f2
  refine bodyPost_ret (v := .tuple #[.agg #[.bool M, .slice a4 k1 c4, .slice a5 k2 c5], .int .i64 0]) (by simp [results, Tryz.results182, go_sem, f0, f1, f2]) rfl ⟨⟨_, rfl, fun _ => ⟨_, _, rfl, s1 _ _ _ N6.out, s1 _ _ _ D6.out⟩, fun h => absurd rfl h⟩, ?_⟩
  exact ((y6.out.setCell (Nat.le_refl _) _).setCell (Nat.le_refl _) _).setCell (Nat.le_refl _) _
theorem f_Parse (w : World) (s : ByteArray) (hs : s.size ≤ 1000000) (hL : Lay w) :
    Calls Tryz.prog 182 #[.string s] w fun e w' => RetF (qE s) (iM (cW s)) (bN (iD (cW s))) (bN (qD s)) e w' ∧ Below w.heap.size w w' := by
  have HC := cuts_of s hs
  have HL := hid hL
  by_cases hq : qB s = true
  · have hi := qB_whole hq
    rw [hi] at HC
    have hdD := fB_dig (iB_form hi)
    have hcS : cS s = false ∨ (cS s = true ∧ ¬ iD (cW s) = ⟨#[48]⟩ ∧ ¬ cB s = ⟨#[48]⟩ ∧ ¬ cB s = ⟨#[49]⟩ ∧ fB (cB s) = true) := by
      have hq' := hq
      unfold qB at hq'
      simp only [Bool.and_eq_true, Bool.or_eq_true, Bool.not_eq_true', decide_eq_true_eq] at hq'
      rcases hq'.2 with h | h
      · exact .inl h
      · cases hc : cS s
        · exact .inl rfl
        · exact .inr ⟨rfl, h.1.1.1, h.1.2, h.2, h.1.1.2⟩
    by_cases hl : qL s = true
    · have e : qE s = 5 := by simp [qE, hq, hl]
      rw [e]
      unfold qL at hl
      simp only [Bool.or_eq_true, decide_eq_true_eq] at hl
      refine (fp_long w s _ _ _ _ _ _ HL HC hcS ?_).mono ?_
      · by_cases h4 : 4000 < (iD (cW s)).size
        · exact .inl h4
        · refine .inr ⟨h4, ?_⟩
          rcases hcS with hc | ⟨hc, -⟩
          · rw [qD_false hc] at hl
            exact absurd (hl.resolve_left h4) (by decide)
          · rw [qD_true hc] at hl
            exact ⟨hc, hl.resolve_left h4⟩
      · rintro e w' ⟨rfl, hb⟩
        exact ⟨RetF.err (by decide), hb⟩
    · have hl' : qL s = false := by simpa using hl
      have hl1 : ¬ 4000 < (iD (cW s)).size ∧ ¬ 4000 < (qD s).size := by
        unfold qL at hl'
        simpa using hl'
      rcases hcS with hc | ⟨hc, h1, h2, h3, h4⟩
      · rw [hc] at HC
        have e : qE s = 0 := by simp [qE, hq, hl', qG, hc]
        rw [e, qD_false hc]
        exact fp_int w s _ _ _ _ _ HL HC hl1.1 hdD
      · rw [hc, h4] at HC
        have hl2 := hl1.2
        rw [qD_true hc] at hl2
        have e : qE s = if Nat.gcd (bN (iD (cW s))) (bN (cB s)) = 1 then 0 else 3 := by
          simp only [qE, hq, hl', qG, hc, qD_true hc]
          by_cases hg : Nat.gcd (bN (iD (cW s))) (bN (cB s)) = 1 <;> simp [hg]
        rw [e, qD_true hc]
        exact fp_frac w s _ _ _ _ HL HC h1 h2 h3 hl1.1 hl2 hdD (fB_dig h4)
  · have hq' : qB s = false := by simpa using hq
    have e : qE s = 3 := by simp [qE, hq']
    rw [e]
    refine (fp_bad w s _ _ _ _ _ _ _ HL HC hq').mono ?_
    rintro e w' ⟨rfl, hb⟩
    exact ⟨RetF.err (by decide), hb⟩
end Go.Proofs.YtccalhlhdiapiaaGreatDoor
namespace Go.Proofs.YtccalhlhdiapiaaGreatDoor
open Go.RowKit Go.Shelf
set_option linter.unusedVariables false
theorem RetF.parts {x : Int} {m : Bool} {n d : Nat} {e : Ending} {w' : World} (h : RetF x m n d e w') : ∃ (b : Bool) (a1 a2 : Option Addr) (n1 c1 n2 c2 : Nat), e = .returned (.tuple #[.agg #[.bool b, .slice a1 n1 c1, .slice a2 n2 c2], .int .i64 x]) := by
  obtain ⟨v, rfl, h1, h2⟩ := h
  by_cases hx : x = 0
  · obtain ⟨N, D, rfl, hN, hD⟩ := h1 hx
    obtain ⟨a1, c1, rfl, _⟩ := hN.openI
    obtain ⟨a2, c2, rfl, _⟩ := hD.openI
    exact ⟨_, _, _, _, _, _, _, rfl⟩
  · rw [h2 hx]
    exact ⟨_, _, _, _, _, _, _, rfl⟩
set_option maxRecDepth 100000 in
set_option maxHeartbeats 1000000 in
theorem q_Check (w : World) (s : ByteArray) (hs : s.size ≤ 1000000) (hL : Lay w) :
    Calls Tryz.prog 144 #[.string s] w fun e w' => e = .returned (.int .i64 (qE s)) ∧ Below w.heap.size w w' := by
  have HC := hid (f_Parse w s hs hL)
  go_enter Tryz.func144, Tryz.ntmps144
  go_wp2_with fail
  refine HC.out.mono ?_
  rintro e w1 ⟨hr, hb⟩
  obtain ⟨b, a1, a2, n1, c1, n2, c2, rfl⟩ := hr.parts
  have HB := hid hb
  clear hr hb
  go_wp2_with fail
  go_ret
  exact ⟨rfl, HB.out.alloc HB.out.size _⟩
def pW (s : ByteArray) : ByteArray := if qE s = 0 then cW s else ⟨#[]⟩
def pD (s : ByteArray) : ByteArray := if qE s = 0 then qD s else ⟨#[]⟩
set_option maxRecDepth 100000 in
set_option maxHeartbeats 1000000 in
theorem q_Parts (w : World) (s : ByteArray) (hs : s.size ≤ 1000000) (hL : Lay w) :
    Calls Tryz.prog 96 #[.string s] w fun e w' => e = .returned (.tuple #[.string (pW s), .string (pD s), .int .i64 (qE s)]) ∧ Below w.heap.size w w' := by
  have HC := hid (q_Check w s hs hL)
  have HU := hid (cuts_of s hs)
  have HL := hid hL
  clear hL
  by_cases he : qE s = 0
  · have e1 : pW s = cW s := if_pos he
    have e2 : pD s = qD s := if_pos he
    rw [e1, e2, he]
    rw [he] at HC
    clear e1 e2
    obtain ⟨W, hW⟩ : ∃ W, cW s = W := ⟨_, rfl⟩
    obtain ⟨B, hB⟩ : ∃ B, cB s = B := ⟨_, rfl⟩
    rw [hW, hB] at HU
    rw [hW]
    cases hc : cS s
    · rw [qD_false hc]
      rw [hc] at HU
      clear hW hB hc he
      go_enter Tryz.func96, Tryz.ntmps96
      go_wp2_with (first
        | (go_at_call 144; refine HC.out.mono ?_; rintro e w1 ⟨rfl, hb1⟩
           have y1 := hid hb1; clear hb1)
        | (go_at_call 145; refine (HU.out.cut _ (HL.out.call y1.out)).mono ?_; rintro e w2 ⟨rfl, hb2⟩
           have y2 := hid (bnext y1.out hb2); clear hb2)
        | fail)
      go_ret3
      exact ⟨rfl, y2.out⟩
    · rw [qD_true hc, hB]
      rw [hc] at HU
      clear hW hB hc he
      go_enter Tryz.func96, Tryz.ntmps96
      go_wp2_with (first
        | (go_at_call 144; refine HC.out.mono ?_; rintro e w1 ⟨rfl, hb1⟩
           have y1 := hid hb1; clear hb1)
        | (go_at_call 145; refine (HU.out.cut _ (HL.out.call y1.out)).mono ?_; rintro e w2 ⟨rfl, hb2⟩
           have y2 := hid (bnext y1.out hb2); clear hb2)
        | fail)
      go_ret3
      exact ⟨rfl, y2.out⟩
  · have e1 : pW s = ⟨#[]⟩ := if_neg he
    have e2 : pD s = ⟨#[]⟩ := if_neg he
    rw [e1, e2]
    have q0 : (qE s != 0) = true := by simpa using he
    obtain ⟨x, hx⟩ : ∃ x, qE s = x := ⟨_, rfl⟩
    rw [hx] at HC q0 ⊢
    clear hx he e1 e2
    have q1 : (x == 0) = false := by simpa using q0
    have q2 : ¬ x = 0 := by simpa using q0
    go_enter Tryz.func96, Tryz.ntmps96
    go_wp2_with (first
      | (go_at_call 144; refine HC.out.mono ?_; rintro e w1 ⟨rfl, hb1⟩
         have y1 := hid hb1; clear hb1)
      | fail)
    go_ret3
    exact ⟨rfl, y1.out⟩
end Go.Proofs.YtccalhlhdiapiaaGreatDoor
namespace Go.Proofs.YtccalhlhdiapiaaGreatDoor
open Go.RowKit Go.Shelf
open Go.Lib (decDigits nDigits)
set_option linter.unusedVariables false
set_option maxRecDepth 100000 in
set_option maxHeartbeats 1000000 in
theorem c_checked (w : World) (s : ByteArray) (hs : s.size ≤ 100000000) :
    Calls Tryz.prog 222 #[.string s] w fun e w' => e = .returned (.int .i64 (chkE s)) ∧ Below w.heap.size w w' := by
  have HC := hid (b_Check w s hs)
  by_cases hb : bitB s = true
  · have e0 : bitE s = 0 := if_pos hb
    rw [e0] at HC
    by_cases hl : 256 < s.size
    · have e1 : chkE s = 4 := by rw [chkE, if_pos hb, if_pos hl]
      have q0 : decide ((256 : Int) < (s.size : Int)) = true := by simp; omega
      rw [e1]
      clear hb hl e0 e1
      go_enter Tryz.func222, Tryz.ntmps222
      go_wp2_with fail
      refine HC.out.mono ?_; rintro e w1 ⟨rfl, hb1⟩
      go_wp2_with fail
      go_ret
      exact ⟨rfl, hb1⟩
    · have e1 : chkE s = 0 := by rw [chkE, if_pos hb, if_neg hl]
      have q0 : decide ((256 : Int) < (s.size : Int)) = false := by simp; omega
      rw [e1]
      clear hb hl e0 e1
      go_enter Tryz.func222, Tryz.ntmps222
      go_wp2_with fail
      refine HC.out.mono ?_; rintro e w1 ⟨rfl, hb1⟩
      go_wp2_with fail
      go_ret
      exact ⟨rfl, hb1⟩
  · have e0 : bitE s = 3 := if_neg hb
    have e1 : chkE s = 3 := if_neg hb
    rw [e0] at HC
    rw [e1]
    clear hb e0 e1
    go_enter Tryz.func222, Tryz.ntmps222
    go_wp2_with fail
    refine HC.out.mono ?_; rintro e w1 ⟨rfl, hb1⟩
    go_wp2_with fail
    go_ret
    exact ⟨rfl, hb1⟩
set_option maxRecDepth 100000 in
set_option maxHeartbeats 1000000 in
theorem c_plus (w : World) (s t : ByteArray) (hs : s.size ≤ 1000000) (ht : t.size ≤ 1000000) (hL : Lay w) :
    Calls Tryz.prog 246 #[.string s, .string t] w fun e w' => e = .returned (.string (natB (· + ·) s t)) ∧ Below w.heap.size w w' := by
  have P := hid (n_Add w s t hs ht hL)
  go_enter Tryz.func246, Tryz.ntmps246
  go_wp2_with fail
  refine P.out.mono ?_; rintro e w1 ⟨rfl, hb1⟩
  go_wp2_with fail
  go_ret
  exact ⟨rfl, hb1⟩
set_option maxRecDepth 100000 in
set_option maxHeartbeats 1000000 in
theorem c_times (w : World) (s t : ByteArray) (hs : s.size ≤ 1000000) (ht : t.size ≤ 1000000) (hL : Lay w) :
    Calls Tryz.prog 245 #[.string s, .string t] w fun e w' => e = .returned (.string (natB (· * ·) s t)) ∧ Below w.heap.size w w' := by
  have P := hid (n_Mul w s t hs ht hL)
  go_enter Tryz.func245, Tryz.ntmps245
  go_wp2_with fail
  refine P.out.mono ?_; rintro e w1 ⟨rfl, hb1⟩
  go_wp2_with fail
  go_ret
  exact ⟨rfl, hb1⟩
set_option maxRecDepth 100000 in
set_option maxHeartbeats 1000000 in
theorem g_plus (w : World) (s t : ByteArray) (hs : s.size ≤ 1000000) (ht : t.size ≤ 1000000) (hL : Lay w) :
    Calls Tryz.prog 61 #[.string s, .string t] w fun e w' => e = .returned (.string (natB (· + ·) s t)) ∧ Below w.heap.size w w' := by
  have P := hid (n_Add w s t hs ht hL)
  go_enter Tryz.func61, Tryz.ntmps61
  go_wp2_with fail
  refine P.out.mono ?_; rintro e w1 ⟨rfl, hb1⟩
  go_wp2_with fail
  go_ret
  exact ⟨rfl, hb1⟩
set_option maxRecDepth 100000 in
set_option maxHeartbeats 1000000 in
theorem g_times (w : World) (s t : ByteArray) (hs : s.size ≤ 1000000) (ht : t.size ≤ 1000000) (hL : Lay w) :
    Calls Tryz.prog 62 #[.string s, .string t] w fun e w' => e = .returned (.string (natB (· * ·) s t)) ∧ Below w.heap.size w w' := by
  have P := hid (n_Mul w s t hs ht hL)
  go_enter Tryz.func62, Tryz.ntmps62
  go_wp2_with fail
  refine P.out.mono ?_; rintro e w1 ⟨rfl, hb1⟩
  go_wp2_with fail
  go_ret
  exact ⟨rfl, hb1⟩
end Go.Proofs.YtccalhlhdiapiaaGreatDoor
namespace Go.Proofs.YtccalhlhdiapiaaGreatDoor
open Go.RowKit Go.Shelf
open Go.Lib (decDigits nDigits)
set_option linter.unusedVariables false
theorem qE_head {s W : ByteArray} (h : qE s = 0) (hW : cW s = W) : ∃ h0 : 0 < W.size, ((W[0].toNat : Int) == 45) = iM W := by
  subst hW
  have h1 := (qE_zero h).1
  have h2 := fB_dig (iB_form (qB_whole h1))
  have h3 := (formB_iff.1 (iB_form (qB_whole h1))).1
  obtain ⟨l, hl⟩ : ∃ l, (cW s).data.toList = l := ⟨_, rfl⟩
  have e : cW s = ⟨⟨l⟩⟩ := by
    apply ByteArray.ext
    rw [← hl]
  rw [e] at h2 h3 ⊢
  cases l with
  | nil => exact absurd rfl h3
  | cons b r =>
    refine ⟨Nat.succ_pos _, ?_⟩
    have e2 : (ByteArray.mk ⟨b :: r⟩)[0]'(Nat.succ_pos _) = b := rfl
    have e3 : iM ⟨⟨b :: r⟩⟩ = ((45 : UInt8) == b) := by
      simp [iM, Lib.hasPrefix, List.isPrefixOf]
    rw [e3]
    show ((((ByteArray.mk ⟨b :: r⟩)[0]'(Nat.succ_pos _)).toNat : Int) == 45) = _
    rw [e2, Bool.eq_iff_iff, beq_iff_eq, beq_iff_eq]
    constructor
    · intro h
      apply UInt8.toNat_inj.1
      simp
      omega
    · intro h
      rw [← h]
      rfl
end Go.Proofs.YtccalhlhdiapiaaGreatDoor
namespace Go.Proofs.YtccalhlhdiapiaaGreatDoor
open Go.RowKit Go.Shelf
open Go.Lib (decDigits nDigits)
set_option linter.unusedVariables false
def cPE (s : ByteArray) : Int := if qE s ≠ 0 then qE s else if iM (cW s) = true ∨ 0 < cmpN (cW s).data.toList (qD s).data.toList then 2 else if 1000 < (cW s).size ∨ 1000 < (qD s).size then 5 else 0
set_option maxRecDepth 100000 in
set_option maxHeartbeats 2000000 in
theorem c_parts (w : World) (s : ByteArray) (hs : s.size ≤ 100000) (hL : Lay w) :
    Calls Tryz.prog 221 #[.string s] w fun e w' => e = .returned (.tuple #[.string (if cPE s = 0 then cW s else ⟨#[]⟩), .string (if cPE s = 0 then qD s else ⟨#[]⟩), .int .i64 (cPE s)]) ∧ Below w.heap.size w w' := by
  have HC := hid (q_Parts w s (by omega) hL)
  have z1 := cW_size s
  have z2 := qD_size s
  have HM := fun V => hid (n_Cmp V (cW s) (qD s) (by omega) (by omega))
  by_cases he : qE s = 0
  · have e1 : pW s = cW s := if_pos he
    have e2 : pD s = qD s := if_pos he
    rw [e1, e2, he] at HC
    have HE : cPE s = if iM (cW s) = true ∨ 0 < cmpN (cW s).data.toList (qD s).data.toList then 2 else if 1000 < (cW s).size ∨ 1000 < (qD s).size then 5 else 0 := by
      unfold cPE
      rw [if_neg (fun h => h he)]
    rw [HE]
    clear HE e1 e2
    obtain ⟨D, hD⟩ : ∃ D, qD s = D := ⟨_, rfl⟩
    obtain ⟨W, hW⟩ : ∃ W, cW s = W := ⟨_, rfl⟩
    obtain ⟨hw0, hiM⟩ := qE_head he hW
    clear he
    obtain ⟨m, hm⟩ : ∃ m, iM W = m := ⟨_, rfl⟩
    obtain ⟨c, hc⟩ : ∃ c, cmpN W.data.toList D.data.toList = c := ⟨_, rfl⟩
    rw [hD, hW] at HC HM
    rw [hm] at hiM
    rw [hc] at HM
    rw [hD, hW, hm, hc]
    clear hD hW hm hc z1 z2
    rcases m with _ | _
    · by_cases hc2 : 0 < c
      · have q0 : decide ((0 : Int) < c) = true := by simp; omega
        simp only [hc2, or_true, if_true, show ¬ (2 : Int) = 0 by decide, if_false]
        clear hc2
        go_enter Tryz.func221, Tryz.ntmps221
        go_wp2_with fail
        refine HC.out.mono ?_; rintro e w1 ⟨rfl, hb1⟩
        have y1 := hid hb1; clear hb1
        go_wp2_with fail
        refine (HM _).out.mono ?_; rintro e w2 ⟨rfl, hb2⟩
        have y2 := hid (bnext y1.out hb2); clear hb2
        go_wp2_with fail
        go_ret3
        exact ⟨rfl, y2.out⟩
      · have q0 : decide ((0 : Int) < c) = false := by simp; omega
        simp only [hc2, Bool.false_eq_true, or_self, if_false]
        clear hc2
        by_cases hl1 : 1000 < W.size
        · have q1 : decide ((1000 : Int) < (W.size : Int)) = true := by simp; omega
          simp only [hl1, true_or, if_true, show ¬ (5 : Int) = 0 by decide, if_false]
          clear hl1
          go_enter Tryz.func221, Tryz.ntmps221
          go_wp2_with fail
          refine HC.out.mono ?_; rintro e w1 ⟨rfl, hb1⟩
          have y1 := hid hb1; clear hb1
          go_wp2_with fail
          refine (HM _).out.mono ?_; rintro e w2 ⟨rfl, hb2⟩
          have y2 := hid (bnext y1.out hb2); clear hb2
          go_wp2_with fail
          go_ret3
          exact ⟨rfl, y2.out⟩
        · have q1 : decide ((1000 : Int) < (W.size : Int)) = false := by simp; omega
          by_cases hl2 : 1000 < D.size
          · have q2 : decide ((1000 : Int) < (D.size : Int)) = true := by simp; omega
            simp only [hl2, or_true, if_true, show ¬ (5 : Int) = 0 by decide, if_false]
            clear hl1 hl2
            go_enter Tryz.func221, Tryz.ntmps221
            go_wp2_with fail
            refine HC.out.mono ?_; rintro e w1 ⟨rfl, hb1⟩
            have y1 := hid hb1; clear hb1
            go_wp2_with fail
            refine (HM _).out.mono ?_; rintro e w2 ⟨rfl, hb2⟩
            have y2 := hid (bnext y1.out hb2); clear hb2
            go_wp2_with fail
            go_ret3
            exact ⟨rfl, y2.out⟩
          · have q2 : decide ((1000 : Int) < (D.size : Int)) = false := by simp; omega
            simp only [hl1, hl2, or_self, if_false, if_true]
            clear hl1 hl2
            go_enter Tryz.func221, Tryz.ntmps221
            go_wp2_with fail
            refine HC.out.mono ?_; rintro e w1 ⟨rfl, hb1⟩
            have y1 := hid hb1; clear hb1
            go_wp2_with fail
            refine (HM _).out.mono ?_; rintro e w2 ⟨rfl, hb2⟩
            have y2 := hid (bnext y1.out hb2); clear hb2
            go_wp2_with fail
            go_ret3
            exact ⟨rfl, y2.out⟩
    · simp only [true_or, if_true, show ¬ (2 : Int) = 0 by decide, if_false]
      go_enter Tryz.func221, Tryz.ntmps221
      go_wp2_with fail
      refine HC.out.mono ?_; rintro e w1 ⟨rfl, hb1⟩
      have y1 := hid hb1; clear hb1
      go_wp2_with fail
      go_ret3
      exact ⟨rfl, y1.out⟩
  · have e1 : pW s = ⟨#[]⟩ := if_neg he
    have e2 : pD s = ⟨#[]⟩ := if_neg he
    have e3 : cPE s = qE s := by unfold cPE; rw [if_pos he]
    rw [e1, e2] at HC
    rw [e3, if_neg he, if_neg he]
    obtain ⟨x, hx⟩ : ∃ x, qE s = x := ⟨_, rfl⟩
    rw [hx] at HC he ⊢
    have q0 : (x == 0) = false := by simpa using he
    have q1 : (x != 0) = true := by simpa using he
    clear e1 e2 e3 hx z1 z2 HM
    go_enter Tryz.func221, Tryz.ntmps221
    go_wp2_with fail
    refine HC.out.mono ?_; rintro e w1 ⟨rfl, hb1⟩
    have y1 := hid hb1; clear hb1
    go_wp2_with fail
    go_ret3
    exact ⟨rfl, y1.out⟩
def gPE (s : ByteArray) : Int := if qE s ≠ 0 then qE s else if iM (cW s) = true ∨ 0 ≤ cmpN (cW s).data.toList (qD s).data.toList then 2 else if 1000 < (cW s).size ∨ 1000 < (qD s).size then 5 else 0
set_option maxRecDepth 100000 in
set_option maxHeartbeats 2000000 in
theorem g_ratio (w : World) (s : ByteArray) (hs : s.size ≤ 100000) (hL : Lay w) :
    Calls Tryz.prog 58 #[.string s] w fun e w' => e = .returned (.tuple #[.string (if gPE s = 0 then cW s else ⟨#[]⟩), .string (if gPE s = 0 then qD s else ⟨#[]⟩), .int .i64 (gPE s)]) ∧ Below w.heap.size w w' := by
  have HC := hid (q_Parts w s (by omega) hL)
  have z1 := cW_size s
  have z2 := qD_size s
  have HM := fun V => hid (n_Cmp V (cW s) (qD s) (by omega) (by omega))
  by_cases he : qE s = 0
  · have e1 : pW s = cW s := if_pos he
    have e2 : pD s = qD s := if_pos he
    rw [e1, e2, he] at HC
    have HE : gPE s = if iM (cW s) = true ∨ 0 ≤ cmpN (cW s).data.toList (qD s).data.toList then 2 else if 1000 < (cW s).size ∨ 1000 < (qD s).size then 5 else 0 := by
      unfold gPE
      rw [if_neg (fun h => h he)]
    rw [HE]
    clear HE e1 e2
    obtain ⟨D, hD⟩ : ∃ D, qD s = D := ⟨_, rfl⟩
    obtain ⟨W, hW⟩ : ∃ W, cW s = W := ⟨_, rfl⟩
    obtain ⟨hw0, hiM⟩ := qE_head he hW
    clear he
    obtain ⟨m, hm⟩ : ∃ m, iM W = m := ⟨_, rfl⟩
    obtain ⟨c, hc⟩ : ∃ c, cmpN W.data.toList D.data.toList = c := ⟨_, rfl⟩
    rw [hD, hW] at HC HM
    rw [hm] at hiM
    rw [hc] at HM
    rw [hD, hW, hm, hc]
    clear hD hW hm hc z1 z2
    rcases m with _ | _
    · by_cases hc2 : 0 ≤ c
      · have q0 : decide ((0 : Int) ≤ c) = true := by simp; omega
        simp only [hc2, or_true, if_true, show ¬ (2 : Int) = 0 by decide, if_false]
        clear hc2
        go_enter Tryz.func58, Tryz.ntmps58
        go_wp2_with fail
        refine HC.out.mono ?_; rintro e w1 ⟨rfl, hb1⟩
        have y1 := hid hb1; clear hb1
        go_wp2_with fail
        refine (HM _).out.mono ?_; rintro e w2 ⟨rfl, hb2⟩
        have y2 := hid (bnext y1.out hb2); clear hb2
        go_wp2_with fail
        go_ret3
        exact ⟨rfl, y2.out⟩
      · have q0 : decide ((0 : Int) ≤ c) = false := by simp; omega
        simp only [hc2, Bool.false_eq_true, or_self, if_false]
        clear hc2
        by_cases hl1 : 1000 < W.size
        · have q1 : decide ((1000 : Int) < (W.size : Int)) = true := by simp; omega
          simp only [hl1, true_or, if_true, show ¬ (5 : Int) = 0 by decide, if_false]
          clear hl1
          go_enter Tryz.func58, Tryz.ntmps58
          go_wp2_with fail
          refine HC.out.mono ?_; rintro e w1 ⟨rfl, hb1⟩
          have y1 := hid hb1; clear hb1
          go_wp2_with fail
          refine (HM _).out.mono ?_; rintro e w2 ⟨rfl, hb2⟩
          have y2 := hid (bnext y1.out hb2); clear hb2
          go_wp2_with fail
          go_ret3
          exact ⟨rfl, y2.out⟩
        · have q1 : decide ((1000 : Int) < (W.size : Int)) = false := by simp; omega
          by_cases hl2 : 1000 < D.size
          · have q2 : decide ((1000 : Int) < (D.size : Int)) = true := by simp; omega
            simp only [hl2, or_true, if_true, show ¬ (5 : Int) = 0 by decide, if_false]
            clear hl1 hl2
            go_enter Tryz.func58, Tryz.ntmps58
            go_wp2_with fail
            refine HC.out.mono ?_; rintro e w1 ⟨rfl, hb1⟩
            have y1 := hid hb1; clear hb1
            go_wp2_with fail
            refine (HM _).out.mono ?_; rintro e w2 ⟨rfl, hb2⟩
            have y2 := hid (bnext y1.out hb2); clear hb2
            go_wp2_with fail
            go_ret3
            exact ⟨rfl, y2.out⟩
          · have q2 : decide ((1000 : Int) < (D.size : Int)) = false := by simp; omega
            simp only [hl1, hl2, or_self, if_false, if_true]
            clear hl1 hl2
            go_enter Tryz.func58, Tryz.ntmps58
            go_wp2_with fail
            refine HC.out.mono ?_; rintro e w1 ⟨rfl, hb1⟩
            have y1 := hid hb1; clear hb1
            go_wp2_with fail
            refine (HM _).out.mono ?_; rintro e w2 ⟨rfl, hb2⟩
            have y2 := hid (bnext y1.out hb2); clear hb2
            go_wp2_with fail
            go_ret3
            exact ⟨rfl, y2.out⟩
    · simp only [true_or, if_true, show ¬ (2 : Int) = 0 by decide, if_false]
      go_enter Tryz.func58, Tryz.ntmps58
      go_wp2_with fail
      refine HC.out.mono ?_; rintro e w1 ⟨rfl, hb1⟩
      have y1 := hid hb1; clear hb1
      go_wp2_with fail
      go_ret3
      exact ⟨rfl, y1.out⟩
  · have e1 : pW s = ⟨#[]⟩ := if_neg he
    have e2 : pD s = ⟨#[]⟩ := if_neg he
    have e3 : gPE s = qE s := by unfold gPE; rw [if_pos he]
    rw [e1, e2] at HC
    rw [e3, if_neg he, if_neg he]
    obtain ⟨x, hx⟩ : ∃ x, qE s = x := ⟨_, rfl⟩
    rw [hx] at HC he ⊢
    have q0 : (x == 0) = false := by simpa using he
    have q1 : (x != 0) = true := by simpa using he
    clear e1 e2 e3 hx z1 z2 HM
    go_enter Tryz.func58, Tryz.ntmps58
    go_wp2_with fail
    refine HC.out.mono ?_; rintro e w1 ⟨rfl, hb1⟩
    have y1 := hid hb1; clear hb1
    go_wp2_with fail
    go_ret3
    exact ⟨rfl, y1.out⟩
end Go.Proofs.YtccalhlhdiapiaaGreatDoor
namespace Go.Proofs.YtccalhlhdiapiaaGreatDoor
open Go.RowKit
open Go.Lib (decDigits nDigits)
theorem toss_done {N D K T : Nat} {l : List UInt8} (h : sdB N D K T = true) : toss N D K T l = (true, sdV N D K T, 0) := by
  rw [toss.eq_def]; dsimp only; rw [if_pos h]
theorem toss_late {N D K T : Nat} (h : sdB N D K T = false) : toss N D K T [] = (false, 0, 0) := by
  rw [toss.eq_def]; dsimp only; rw [if_neg (by simp [h])]
theorem toss_next {N D K T : Nat} {b : UInt8} {r : List UInt8} (h : sdB N D K T = false) : toss N D K T (b :: r) = ((toss N D (2 * K + (if b = 49 then 1 else 0)) (2 * T) r).1, (toss N D (2 * K + (if b = 49 then 1 else 0)) (2 * T) r).2.1, (toss N D (2 * K + (if b = 49 then 1 else 0)) (2 * T) r).2.2 + 1) := by
  rw [toss.eq_def]; dsimp only; rw [if_neg (by simp [h])]
def tossAt (N D : Nat) (l : List UInt8) (K T u : Nat) : Bool × Nat × Nat := let x := toss N D K T (l.drop u); (x.1, x.2.1, x.2.2 + u)
theorem tossAt_done {N D K T u : Nat} {l : List UInt8} (h : sdB N D K T = true) : tossAt N D l K T u = (true, sdV N D K T, u) := by
  unfold tossAt; rw [toss_done h]; simp
theorem tossAt_late {N D K T : Nat} {l : List UInt8} (h : sdB N D K T = false) : tossAt N D l K T l.length = (false, 0, l.length) := by
  unfold tossAt; rw [List.drop_length, toss_late h]; simp
theorem tossAt_next {N D K T u : Nat} {l : List UInt8} (h : sdB N D K T = false) (hu : u < l.length) : tossAt N D l K T u = tossAt N D l (K + K + (if l[u] = 49 then 1 else 0)) (T + T) (u + 1) := by
  unfold tossAt
  rw [List.drop_eq_getElem_cons hu, toss_next h, Nat.two_mul, Nat.two_mul]
  simp only [Prod.mk.injEq, true_and]
  omega
structure Cell (K T u : Nat) : Prop where
  t : T = 2 ^ u
  k : K < T
theorem Cell.next {K T u x : Nat} (h : Cell K T u) (hx : x ≤ 1) : Cell (K + K + x) (T + T) (u + 1) := by
  refine ⟨?_, ?_⟩
  · rw [h.t, Nat.pow_succ]; omega
  · have := h.k; omega
theorem Cell.fits {N D K T u : Nat} (h : Cell K T u) (hu : u ≤ 256) (hN : N < 10 ^ eN) (hD : D < 10 ^ eN) : Fits N D K T := by
  have h1 : 2 ^ u ≤ 2 ^ 256 := Nat.pow_le_pow_right (by omega) hu
  have h2 : 2 ^ 256 < 10 ^ eK := by decide
  have ht := h.t
  have hk := h.k
  exact ⟨hN, hD, by omega, by omega⟩
theorem cPE_ok {p : ByteArray} (h : cPE p = 0) : cW p = numB (bN (cW p)) ∧ qD p = numB (bN (qD p)) ∧ bN (cW p) < 10 ^ eN ∧ bN (qD p) < 10 ^ eN ∧ bN (cW p) ≤ bN (qD p) := by
  unfold cPE at h
  split at h
  · rename_i he
    exact absurd h he
  · rename_i he
    have he' : qE p = 0 := Decidable.not_not.1 he
    split at h
    · cases h
    · rename_i h2
      split at h
      · cases h
      · rename_i h3
        obtain ⟨a, b, c, d, e1, e2⟩ := parts_ok he' (fun h => h2 (.inl h)) h3
        refine ⟨a, b, c, d, ?_⟩
        have h4 : ¬ 0 < cmpN (cW p).data.toList (qD p).data.toList := fun h => h2 (.inr h)
        rw [cmpN, if_pos ⟨e1, e2⟩, ordN] at h4
        show dv _ ≤ dv _
        split at h4
        · omega
        · split at h4
          · simp at h4
          · omega
end Go.Proofs.YtccalhlhdiapiaaGreatDoor
namespace Go.Proofs.YtccalhlhdiapiaaGreatDoor
open Go.RowKit
open Go.Lib (decDigits nDigits)
theorem toss_used (N D : Nat) : ∀ (l : List UInt8) (K T : Nat), (toss N D K T l).2.2 ≤ l.length
  | [], K, T => by
    cases h : sdB N D K T
    · rw [toss_late h]; simp
    · rw [toss_done h]; simp
  | b :: r, K, T => by
    cases h : sdB N D K T
    · rw [toss_next h]
      have := toss_used N D r (2 * K + (if b = 49 then 1 else 0)) (2 * T)
      simp only [List.length_cons]
      omega
    · rw [toss_done h]; simp
theorem toss_val (N D : Nat) : ∀ (l : List UInt8) (K T : Nat), (toss N D K T l).2.1 ≤ 1
  | [], K, T => by
    cases h : sdB N D K T
    · rw [toss_late h]; simp
    · rw [toss_done h]; simp only [sdV]; split <;> omega
  | b :: r, K, T => by
    cases h : sdB N D K T
    · rw [toss_next h]
      exact toss_val N D r _ _
    · rw [toss_done h]; simp only [sdV]; split <;> omega
theorem toss_one {N D : Nat} (h : N < D) {l : List UInt8} (hd : (toss N D 0 1 l).1 = true) (hv : (toss N D 0 1 l).2.1 = 1) : 1 ≤ (toss N D 0 1 l).2.2 := by
  cases hs : sdB N D 0 1
  · cases l with
    | nil => rw [toss_late hs] at hd; cases hd
    | cons b r => rw [toss_next hs]; simp
  · rw [toss_done hs] at hv
    simp only [sdV, Nat.mul_one, Nat.zero_mul] at hv
    simp only [sdB, Nat.mul_one, Nat.zero_mul, Nat.zero_add, Bool.or_eq_true, decide_eq_true_eq] at hs
    split at hv
    · cases hv
    · omega
def coinF (N D : Nat) (l : List UInt8) (p : Nat) : Bool × Nat × Nat := tossAt N D (l.drop p) 0 1 0
theorem coinF_eq (N D : Nat) (l : List UInt8) (p : Nat) : coinF N D l p = toss N D 0 1 (l.drop p) := by simp [coinF, tossAt]
def posOf (pre : List (Nat × Nat)) : Nat := match pre.getLast? with | some x => x.1 | none => 0
theorem posOf_nil : posOf [] = 0 := rfl
theorem posOf_snoc (pre : List (Nat × Nat)) (x : Nat × Nat) : posOf (pre ++ [x]) = x.1 := by simp [posOf]
theorem coinF_le {N D : Nat} {l : List UInt8} {p : Nat} (hp : p ≤ l.length) : p + (coinF N D l p).2.2 ≤ l.length := by
  rw [coinF_eq]
  have := toss_used N D (l.drop p) 0 1
  rw [List.length_drop] at this
  omega
end Go.Proofs.YtccalhlhdiapiaaGreatDoor
namespace Go.Proofs.YtccalhlhdiapiaaGreatDoor
open Go.RowKit
open Go.Lib (decDigits nDigits)
def ser (N D : Nat) (l : List UInt8) : Nat → Nat → Nat → List Nat → Nat → Option (List Nat × Nat)
  | 0, _, _, _, _ => none
  | f + 1, m, p, vs, n =>
    if (coinF N D l p).1 = false then none
    else if (coinF N D l p).2.1 = 1 then ser N D l f m (p + (coinF N D l p).2.2) vs (n + 1)
    else if m ≤ 1 then some (vs ++ [n], p + (coinF N D l p).2.2)
    else ser N D l f (m - 1) (p + (coinF N D l p).2.2) (vs ++ [n]) 0
theorem coinF_one {N D : Nat} (h : N < D) {l : List UInt8} {p : Nat} (hd : (coinF N D l p).1 = true) (hv : (coinF N D l p).2.1 = 1) : 1 ≤ (coinF N D l p).2.2 := by
  rw [coinF_eq] at *
  exact toss_one h hd hv
theorem ser_fuel {N D : Nat} (h : N < D) {l : List UInt8} : ∀ (f f' m p : Nat) (vs : List Nat) (n : Nat), 1 ≤ m → p ≤ l.length → l.length - p + m ≤ f → l.length - p + m ≤ f' → ser N D l f m p vs n = ser N D l f' m p vs n := by
  intro f
  induction f with
  | zero => intro f' m p vs n hm hp h1 h2; omega
  | succ f ih =>
    intro f' m p vs n hm hp h1 h2
    cases f' with
    | zero => omega
    | succ f' =>
      have hle := coinF_le (N := N) (D := D) hp
      simp only [ser]
      split
      · rfl
      · rename_i hd
        have hd' : (coinF N D l p).1 = true := by simpa using hd
        split
        · rename_i hv
          have := coinF_one h hd' hv
          exact ih _ _ _ _ _ hm hle (by omega) (by omega)
        · split
          · rfl
          · exact ih _ _ _ _ _ (by omega) hle (by omega) (by omega)
def sr (N D : Nat) (l : List UInt8) (m p : Nat) (vs : List Nat) (n : Nat) : Option (List Nat × Nat) := ser N D l (l.length - p + m) m p vs n
theorem sr_of {N D : Nat} (h : N < D) {l : List UInt8} {f m p n : Nat} {vs : List Nat} (hm : 1 ≤ m) (hp : p ≤ l.length) (hf : l.length - p + m ≤ f) : ser N D l f m p vs n = sr N D l m p vs n := ser_fuel h _ _ _ _ _ _ hm hp hf (Nat.le_refl _)
theorem sr_unfold {N D : Nat} {l : List UInt8} {m p n : Nat} {vs : List Nat} (hm : 1 ≤ m) : sr N D l m p vs n = ser N D l ((l.length - p + m - 1) + 1) m p vs n := by
  unfold sr
  rw [show l.length - p + m - 1 + 1 = l.length - p + m by omega]
theorem sr_late {N D : Nat} {l : List UInt8} {m p n : Nat} {vs : List Nat} (hm : 1 ≤ m) (hd : (coinF N D l p).1 = false) : sr N D l m p vs n = none := by
  rw [sr_unfold hm, ser, if_pos hd]
theorem sr_one {N D : Nat} (h : N < D) {l : List UInt8} {m p n : Nat} {vs : List Nat} (hm : 1 ≤ m) (hp : p ≤ l.length) (hd : (coinF N D l p).1 = true) (hv : (coinF N D l p).2.1 = 1) : sr N D l m p vs n = sr N D l m (p + (coinF N D l p).2.2) vs (n + 1) := by
  have hle := coinF_le (N := N) (D := D) hp
  have := coinF_one h hd hv
  rw [sr_unfold hm, ser, if_neg (by simp [hd]), if_pos hv]
  exact sr_of h hm hle (by omega)
theorem sr_stop {N D : Nat} {l : List UInt8} {p n : Nat} {vs : List Nat} (hd : (coinF N D l p).1 = true) (hv : ¬ (coinF N D l p).2.1 = 1) : sr N D l 1 p vs n = some (vs ++ [n], p + (coinF N D l p).2.2) := by
  rw [sr_unfold (Nat.le_refl 1), ser, if_neg (by simp [hd]), if_neg hv, if_pos (Nat.le_refl 1)]
theorem sr_more {N D : Nat} (h : N < D) {l : List UInt8} {m p n : Nat} {vs : List Nat} (hm : 2 ≤ m) (hp : p ≤ l.length) (hd : (coinF N D l p).1 = true) (hv : ¬ (coinF N D l p).2.1 = 1) : sr N D l m p vs n = sr N D l (m - 1) (p + (coinF N D l p).2.2) (vs ++ [n]) 0 := by
  have hle := coinF_le (N := N) (D := D) hp
  rw [sr_unfold (by omega), ser, if_neg (by simp [hd]), if_neg hv, if_neg (by omega)]
  exact sr_of h (by omega) hle (by omega)
def s1 (N D : Nat) (l : List UInt8) (p n : Nat) : Option (Nat × Nat) := match sr N D l 1 p [] n with | some (x :: _, at') => some (x, at') | _ => none
theorem sr_one_eq {N D : Nat} (h : N < D) {l : List UInt8} : ∀ (f p : Nat) (vs : List Nat) (n : Nat), p ≤ l.length → l.length - p ≤ f → sr N D l 1 p vs n = match s1 N D l p n with | some (x, a) => some (vs ++ [x], a) | none => none := by
  intro f
  induction f with
  | zero =>
    intro p vs n hp hf
    cases hd : (coinF N D l p).1
    · rw [s1, sr_late (Nat.le_refl 1) hd, sr_late (Nat.le_refl 1) hd]
    · by_cases hv : (coinF N D l p).2.1 = 1
      · have := coinF_one h hd hv
        have := coinF_le (N := N) (D := D) hp
        omega
      · rw [s1, sr_stop hd hv, sr_stop hd hv]
        rfl
  | succ f ih =>
    intro p vs n hp hf
    cases hd : (coinF N D l p).1
    · rw [s1, sr_late (Nat.le_refl 1) hd, sr_late (Nat.le_refl 1) hd]
    · by_cases hv : (coinF N D l p).2.1 = 1
      · have := coinF_one h hd hv
        have hle := coinF_le (N := N) (D := D) hp
        rw [s1, sr_one h (Nat.le_refl 1) hp hd hv, sr_one h (Nat.le_refl 1) hp hd hv, ih _ _ _ hle (by omega)]
        rfl
      · rw [s1, sr_stop hd hv, sr_stop hd hv]
        rfl
theorem s1_le {N D : Nat} (h : N < D) {l : List UInt8} : ∀ (f p n x a : Nat), p ≤ l.length → l.length - p ≤ f → s1 N D l p n = some (x, a) → p ≤ a ∧ a ≤ l.length ∧ x ≤ n + (a - p) := by
  intro f
  induction f with
  | zero =>
    intro p n x a hp hf hs
    cases hd : (coinF N D l p).1
    · rw [s1, sr_late (Nat.le_refl 1) hd] at hs; cases hs
    · by_cases hv : (coinF N D l p).2.1 = 1
      · have := coinF_one h hd hv
        have := coinF_le (N := N) (D := D) hp
        omega
      · rw [s1, sr_stop hd hv] at hs
        simp at hs
        have := coinF_le (N := N) (D := D) hp
        omega
  | succ f ih =>
    intro p n x a hp hf hs
    cases hd : (coinF N D l p).1
    · rw [s1, sr_late (Nat.le_refl 1) hd] at hs; cases hs
    · by_cases hv : (coinF N D l p).2.1 = 1
      · have := coinF_one h hd hv
        have hle := coinF_le (N := N) (D := D) hp
        rw [s1, sr_one h (Nat.le_refl 1) hp hd hv] at hs
        have := ih _ _ _ _ hle (by omega) hs
        omega
      · rw [s1, sr_stop hd hv] at hs
        simp at hs
        have := coinF_le (N := N) (D := D) hp
        omega
theorem sr_two {N D : Nat} (h : N < D) {l : List UInt8} : ∀ (f p : Nat) (vs : List Nat) (n : Nat), p ≤ l.length → l.length - p ≤ f → sr N D l 2 p vs n = match s1 N D l p n with
    | some (x, a) => sr N D l 1 a (vs ++ [x]) 0
    | none => none := by
  intro f
  induction f with
  | zero =>
    intro p vs n hp hf
    cases hd : (coinF N D l p).1
    · rw [s1, sr_late (by omega) hd, sr_late (Nat.le_refl 1) hd]
    · by_cases hv : (coinF N D l p).2.1 = 1
      · have := coinF_one h hd hv
        have := coinF_le (N := N) (D := D) hp
        omega
      · rw [s1, sr_stop hd hv, sr_more h (Nat.le_refl 2) hp hd hv]
        rfl
  | succ f ih =>
    intro p vs n hp hf
    cases hd : (coinF N D l p).1
    · rw [s1, sr_late (by omega) hd, sr_late (Nat.le_refl 1) hd]
    · by_cases hv : (coinF N D l p).2.1 = 1
      · have := coinF_one h hd hv
        have hle := coinF_le (N := N) (D := D) hp
        rw [s1, sr_one h (by omega) hp hd hv, sr_one h (Nat.le_refl 1) hp hd hv, ih _ _ _ hle (by omega)]
        rfl
      · rw [s1, sr_stop hd hv, sr_more h (Nat.le_refl 2) hp hd hv]
        rfl
theorem coinF_drop (N D : Nat) (l : List UInt8) (a q : Nat) : coinF N D (l.drop a) q = coinF N D l (a + q) := by
  unfold coinF; rw [List.drop_drop]
theorem s1_drop {N D : Nat} (h : N < D) {l : List UInt8} {a : Nat} (ha : a ≤ l.length) : ∀ (f q n : Nat), a + q ≤ l.length → l.length - (a + q) ≤ f → s1 N D l (a + q) n = (s1 N D (l.drop a) q n).map (fun x => (x.1, a + x.2)) := by
  intro f
  induction f with
  | zero =>
    intro q n hp hf
    have hc := coinF_drop N D l a q
    cases hd : (coinF N D l (a + q)).1
    · rw [s1, s1, sr_late (Nat.le_refl 1) hd, sr_late (Nat.le_refl 1) (by rw [hc]; exact hd)]
      rfl
    · by_cases hv : (coinF N D l (a + q)).2.1 = 1
      · have := coinF_one h hd hv
        have := coinF_le (N := N) (D := D) hp
        omega
      · rw [s1, s1, sr_stop hd hv, sr_stop (by rw [hc]; exact hd) (by rw [hc]; exact hv), hc]
        simp [Nat.add_assoc]
  | succ f ih =>
    intro q n hp hf
    have hc := coinF_drop N D l a q
    cases hd : (coinF N D l (a + q)).1
    · rw [s1, s1, sr_late (Nat.le_refl 1) hd, sr_late (Nat.le_refl 1) (by rw [hc]; exact hd)]
      rfl
    · by_cases hv : (coinF N D l (a + q)).2.1 = 1
      · have := coinF_one h hd hv
        have hle := coinF_le (N := N) (D := D) hp
        have ih' := ih (q + (coinF N D l (a + q)).2.2) (n + 1) (by omega) (by omega)
        rw [← Nat.add_assoc] at ih'
        rw [s1, s1, sr_one h (Nat.le_refl 1) hp hd hv, sr_one (l := l.drop a) (p := q) h (Nat.le_refl 1) (by rw [List.length_drop]; omega) (by rw [hc]; exact hd) (by rw [hc]; exact hv), hc]
        exact ih'
      · rw [s1, s1, sr_stop hd hv, sr_stop (by rw [hc]; exact hd) (by rw [hc]; exact hv), hc]
        simp [Nat.add_assoc]
end Go.Proofs.YtccalhlhdiapiaaGreatDoor
