/- Texts that the proof rests on, merged: Be3, Bn0, Bn1. -/
import Derived.Test.YtpheklgnmbpobaaGreatDoorKq9
import Derived.WalkLawsBesides
namespace Go.Proofs.YtpheklgnmbpobaaGreatDoor
open Go.RowKit Go.Shelf
open Go.Lib (decDigits nDigits)
set_option linter.unusedVariables false
set_option linter.unusedSimpArgs false
theorem bm_at {q : ByteArray} {m : Nat} {k : Int} (h : beE q m = 0) (h1 : -(m : Int) ≤ k) (h2 : k ≤ m) : bmB q m k = bmT q m (k + m).toNat ∧ bmE q m k = 0 := by
  have e : bmE q m k = 0 := by unfold bmE; rw [h, if_neg (by simp), if_neg (by omega)]
  exact ⟨by unfold bmB; rw [if_pos e]; rfl, e⟩
theorem bmT_size (q : ByteArray) (m j : Nat) : (bmT q m j).size ≤ 10000 := outB_size _
theorem btT_size (q : ByteArray) (m j : Nat) : (btT q m j).size ≤ 10000 := outB_size _
set_option maxRecDepth 100000 in
set_option maxHeartbeats 8000000 in
theorem be_shape (w : World) (q : ByteArray) (m : Nat) (c1 : q.size ≤ 6) (hm : m ≤ 8) (h0 : beE q m = 0) (hL : LayB w) :
    Calls Tryz.prog 4 #[.string q, .int .i64 (m : Nat)] w fun e w' => e = .returned (.bool true) ∧ Below w.heap.size w w' := by
  have HLV := hid (w_lives w hL.l)
  have HL := hid hL
  have t1 : decide ((6 : Int) < (q.size : Int)) = false := decide_eq_false (by omega)
  have t2 : decide ((8 : Int) < (m : Int)) = false := decide_eq_false (by omega)
  have hs := shp_ok h0 c1 hm
  have PX := fun V hV => hid (b_Exact V q m (by omega) hV)
  rw [h0] at PX
  have PM : ∀ (k : Int), -(m : Int) ≤ k → k ≤ m → ∀ V, Lay V → Hid (Calls Tryz.prog 14 #[.string q, .int .i64 (m : Nat), .int .i64 k] V fun e w' => e = .returned (.tuple #[.string (bmT q m (k + m).toNat), .int .i64 0]) ∧ Below V.heap.size V w') := fun k h1 h2 V hV => by
    have h := b_Mass V q m k (by omega) hV
    rw [(bm_at h0 h1 h2).1, (bm_at h0 h1 h2).2] at h
    exact h
  have PI := fun (k : Int) (h1 : -(m : Int) ≤ k) (h2 : k ≤ m) V => hid (r2_IntZ V k (by omega) (by omega))
  have PH := fun V v x1 x2 hv => hid (k_HasM V v (bxR q m) x1 x2 hv)
  have PA := fun (j : Nat) V => hid (r2_Add V (btT q m j) (bmT q m j) (by have := btT_size q m j; omega) (by have := bmT_size q m j; omega))
  have PC := fun (j : Nat) V => hid (r2_Cmp V (bmT q m (j + 1)) (bmT q m j) (by have := bmT_size q m (j + 1); omega) (by have := bmT_size q m j; omega))
  have PP := fun (n : Nat) (hn : n ≤ 1000) V => hid (r2_Pow_nat V q n (by omega) hs.qe hs.q0 (by omega))
  have PU := fun (j n : Nat) V => hid (r2_Mul V (bmT q m j) (outB (vQ q ^ n)) (by have := bmT_size q m j; omega) (by have := outB_size (vQ q ^ n); omega))
  have HS : Hid (ShpOk q m) := hs
  have HLEN : Hid ((bxR q m).length = 2 * m + 1) := hs.len
  obtain ⟨BT, hBT⟩ : ∃ f, btT q m = f := ⟨_, rfl⟩
  obtain ⟨BM, hBM⟩ : ∃ f, bmT q m = f := ⟨_, rfl⟩
  obtain ⟨BX, hBX⟩ : ∃ f, bxR q m = f := ⟨_, rfl⟩
  obtain ⟨VP, hVP⟩ : ∃ f : Nat → ByteArray, (fun n : Nat => outB (vQ q ^ n)) = f := ⟨_, rfl⟩
  have hVP' : ∀ n : Nat, outB (vQ q ^ n) = VP n := fun n => by rw [← hVP]
  have HSYM : Hid (∀ j, j < 2 * m + 1 → BM (2 * m - j) = BM j) := by have := hs.sym; rw [hBM] at this; exact this
  have HHAS : Hid (∀ j, j < 2 * m + 1 → hasM BX (zB ((j : Int) - m), BM j) = true) := by have := hs.has; rw [hBM, hBX] at this; exact this
  have HADD : Hid (∀ j, j < 2 * m + 1 → op2B (· + ·) (BT j) (BM j) = BT (j + 1)) := by have := hs.add; rw [hBM, hBT] at this; exact this
  have HNUL : Hid (BT 0 = ⟨#[48]⟩) := by have := hs.nul; rw [hBT] at this; exact this
  have HALL : Hid (BT (2 * m + 1) = ⟨#[49]⟩) := by have := hs.all; rw [hBT] at this; exact this
  have HCMP : Hid (∀ j, m ≤ j → j < 2 * m → cmB (BM (j + 1)) (BM j) ≤ 0) := by have := hs.cmp; rw [hBM] at this; exact this
  have HPOW : Hid (∀ j, m ≤ j → j < 2 * m → op2B (· * ·) (BM j) (VP (2 * (j - m) + 1)) = BM (j + 1)) := by have := hs.pow; rw [hBM] at this; intro j h1 h2; rw [← hVP']; exact this j h1 h2
  rw [hBX] at PX PH HLEN
  rw [hBM] at PM PC
  simp only [hBM, hBT] at PA
  simp only [hBM, hVP'] at PU
  simp only [hVP'] at PP
  have wn : IntKind.i64.wrap (-(m : Int)) = -(m : Int) := by rw [IntWalk.i64_in _ ⟨by omega, by omega⟩]
  have w3 : IntKind.i64.wrap (2 * (m : Int)) = 2 * (m : Int) := by rw [IntWalk.i64_in _ ⟨by omega, by omega⟩]
  have w4 : IntKind.i64.wrap (2 * (m : Int) + 1) = ((2 * m + 1 : Nat) : Int) := by rw [IntWalk.i64_in _ ⟨by omega, by omega⟩]; omega
  obtain ⟨N, hN⟩ : ∃ N, 2 * m + 1 = N := ⟨_, rfl⟩
  rw [hN] at w4 HLEN HSYM HHAS HADD HALL
  have HN := hid hN; have HM := hid hm
  clear hL c1 hs h0 hBT hBM hBX hVP hVP' hN hm HS
  go_enter Tryz.func4, Tryz.ntmps4
  go_wp2_with fail
  refine HLV.out.mono ?_; rintro e w1 ⟨rfl, hb1⟩
  have y1 := hid hb1; clear hb1
  go_wp2_with fail
  refine (PX _ (HL.out.call y1.out)).out.mono ?_; rintro e w2 ⟨⟨u2, rfl, hu2⟩, hb2⟩
  have y2 := hid (bnext y1.out hb2)
  have U2 := hid hu2
  obtain ⟨a2, k2, rfl, h1, h2, -⟩ := hu2.ex
  rw [HLEN.out] at h1 U2 ⊢
  clear hb2 hu2
  go_wp2_with fail
  go_loopw [9, 10] (fun s9 s10 wr => ∃ (j : Nat) (k : Int), s9 = .string (BT j) ∧ s10 = .int .i64 k ∧ k = (j : Int) - (m : Int) ∧ j ≤ N ∧ Hid (Below w2.heap.size w2 wr)) (fun s9 s10 wr => N - (intOf s10 + m).toNat)
  case atStart => exact ⟨0, -(m : Int), by rw [HNUL.out], rfl, by omega, Nat.zero_le _, Below.refl _ _⟩
  case round =>
    obtain ⟨j, k, rfl, rfl, hk, hj, hB⟩ := hrel
    have hm8 := HM.out
    have hN1 := HN.out
    have yr := hid (bnext y2.out hB.out)
    by_cases hlt : j < N
    · have t3 : decide (k ≤ (m : Int)) = true := decide_eq_true (by omega)
      have P1 := PM k (by omega) (by omega)
      have P2 := PM (-k) (by omega) (by omega)
      have P3 := PI k (by omega) (by omega)
      have hh := HHAS.out j hlt
      have ha := HADD.out j hlt
      have hsy := HSYM.out j hlt
      rw [← hk] at hh
      rw [show (k + (m : Int)).toNat = j by omega] at P1
      rw [show (-k + (m : Int)).toNat = 2 * m - j by omega, hsy] at P2
      have PAj := PA j
      rw [ha] at PAj
      obtain ⟨oe, hoe⟩ : ∃ z, op2E (· + ·) (BT j) (BM j) = z := ⟨_, rfl⟩
      simp only [hoe] at PAj
      obtain ⟨K, hK⟩ : ∃ s, zB k = s := ⟨_, rfl⟩
      rw [hK] at P3 hh
      have PHj := fun V v hv => PH V v K (BM j) hv
      rw [hh] at PHj
      have wk : IntKind.i64.wrap (-k) = -k := by rw [IntWalk.i64_in _ ⟨by omega, by omega⟩]
      have wk1 : IntKind.i64.wrap (k + 1) = k + 1 := by rw [IntWalk.i64_in _ ⟨by omega, by omega⟩]
      have JN := hid hlt; have HK := hid hk
      have hnx : Hid (k + 1 = ((j + 1 : Nat) : Int) - (m : Int)) := by show k + 1 = _; omega
      clear hh ha hsy hoe hK hN1
      by_cases g1 : k < 0
      · have t4 : decide (k < 0) = true := decide_eq_true g1
        clear g1 hk hlt hj hm8
        obtain ⟨MJ, hMJ⟩ : ∃ s, BM j = s := ⟨_, rfl⟩
        rw [hMJ] at P1 P2 PHj PAj
        have q1 : (MJ.toList != MJ.toList) = false := by simp
        clear hMJ
        go_wp2_with fail
        refine (P1 _ (HL.out.call yr.out).l).out.mono ?_; rintro e w3 ⟨rfl, hb3⟩
        have B3 := hid (bnext hB.out hb3); have y3 := hid (bnext y2.out B3.out); clear hb3
        go_wp2_with fail
        refine (P2 _ (HL.out.call y3.out).l).out.mono ?_; rintro e w4 ⟨rfl, hb4⟩
        have B4 := hid (bnext B3.out hb4); have y4 := hid (bnext y2.out B4.out); clear hb4
        go_wp2_with fail
        refine (P3 _).out.mono ?_; rintro e w5 ⟨rfl, hb5⟩
        have B5 := hid (bnext B4.out hb5); clear hb5
        go_wp2_with fail
        refine (PHj _ _ (U2.out.call B5.out)).out.mono ?_; rintro e w6 ⟨rfl, hb6⟩
        have B6 := hid (bnext B5.out hb6); clear hb6
        go_wp2_with fail
        refine (PAj _).out.mono ?_; rintro e w7 ⟨rfl, hb7⟩
        have B7 := hid (bnext B6.out hb7); clear hb7
        go_wp2_with fail
        go_roundw
        case rel => exact ⟨j + 1, k + 1, rfl, rfl, hnx.out, by have := JN.out; omega, B7⟩
        case measure => simp [intOf] <;> (have := JN.out; have := HK.out; omega)
      · have t4 : decide (k < 0) = false := decide_eq_false g1
        by_cases g2 : k = m
        · have t5 : (k == (m : Int)) = true := by simpa using g2
          clear g1 g2 hk hlt hj hm8
          obtain ⟨MJ, hMJ⟩ : ∃ s, BM j = s := ⟨_, rfl⟩
          rw [hMJ] at P1 P2 PHj PAj
          have q1 : (MJ.toList != MJ.toList) = false := by simp
          clear hMJ
          go_wp2_with fail
          refine (P1 _ (HL.out.call yr.out).l).out.mono ?_; rintro e w3 ⟨rfl, hb3⟩
          have B3 := hid (bnext hB.out hb3); have y3 := hid (bnext y2.out B3.out); clear hb3
          go_wp2_with fail
          refine (P2 _ (HL.out.call y3.out).l).out.mono ?_; rintro e w4 ⟨rfl, hb4⟩
          have B4 := hid (bnext B3.out hb4); have y4 := hid (bnext y2.out B4.out); clear hb4
          go_wp2_with fail
          refine (P3 _).out.mono ?_; rintro e w5 ⟨rfl, hb5⟩
          have B5 := hid (bnext B4.out hb5); clear hb5
          go_wp2_with fail
          refine (PHj _ _ (U2.out.call B5.out)).out.mono ?_; rintro e w6 ⟨rfl, hb6⟩
          have B6 := hid (bnext B5.out hb6); clear hb6
          go_wp2_with fail
          refine (PAj _).out.mono ?_; rintro e w7 ⟨rfl, hb7⟩
          have B7 := hid (bnext B6.out hb7); clear hb7
          go_wp2_with fail
          go_roundw
          case rel => exact ⟨j + 1, k + 1, rfl, rfl, hnx.out, by have := JN.out; omega, B7⟩
          case measure => simp [intOf] <;> (have := JN.out; have := HK.out; omega)
        · have t5 : (k == (m : Int)) = false := by simpa using g2
          have hN1 := HN.out
          have P4 := PM (k + 1) (by omega) (by omega)
          rw [show (k + 1 + (m : Int)).toNat = j + 1 by omega] at P4
          have hc := HCMP.out j (by omega) (by omega)
          have hp := HPOW.out j (by omega) (by omega)
          have PCj := PC j
          obtain ⟨cz, hcz⟩ : ∃ z, cmB (BM (j + 1)) (BM j) = z := ⟨_, rfl⟩
          obtain ⟨cy, hcy⟩ : ∃ z, cmE (BM (j + 1)) (BM j) = z := ⟨_, rfl⟩
          simp only [hcz, hcy] at PCj
          rw [hcz] at hc
          have t6 : decide (0 < cz) = false := decide_eq_false (by omega)
          have PPj := PP (2 * (j - m) + 1) (by omega)
          have PUj := PU j (2 * (j - m) + 1)
          rw [hp] at PUj
          obtain ⟨n, hn⟩ : ∃ n, 2 * (j - m) + 1 = n := ⟨_, rfl⟩
          simp only [hn] at PPj PUj
          obtain ⟨cu, hcu⟩ : ∃ z, op2E (· * ·) (BM j) (VP n) = z := ⟨_, rfl⟩
          simp only [hcu] at PUj
          obtain ⟨cv, hcv⟩ : ∃ z, outE (vQ q ^ n) = z := ⟨_, rfl⟩
          simp only [hcv] at PPj
          obtain ⟨FV, hFV⟩ : ∃ s, VP n = s := ⟨_, rfl⟩
          simp only [hFV] at PPj PUj
          have wk2 : IntKind.i64.wrap (2 * k) = 2 * k := by rw [IntWalk.i64_in _ ⟨by omega, by omega⟩]
          have wk3 : IntKind.i64.wrap (2 * k + 1) = (n : Int) := by rw [IntWalk.i64_in _ ⟨by omega, by omega⟩]; omega
          obtain ⟨NX, hNX⟩ : ∃ s, BM (j + 1) = s := ⟨_, rfl⟩
          rw [hNX] at P4 PUj
          simp only [hNX] at PCj
          obtain ⟨MJ, hMJ⟩ : ∃ s, BM j = s := ⟨_, rfl⟩
          rw [hMJ] at P1 P2 PHj PAj PUj
          simp only [hMJ] at PCj
          have q1 : (MJ.toList != MJ.toList) = false := by simp
          have q2 : (NX.toList != NX.toList) = false := by simp
          clear hMJ hNX hFV hcv hcu hn hcz hcy hc hp g1 g2 hk hlt hj hm8 hN1
          go_wp2_with fail
          refine (P1 _ (HL.out.call yr.out).l).out.mono ?_; rintro e w3 ⟨rfl, hb3⟩
          have B3 := hid (bnext hB.out hb3); have y3 := hid (bnext y2.out B3.out); clear hb3
          go_wp2_with fail
          refine (P2 _ (HL.out.call y3.out).l).out.mono ?_; rintro e w4 ⟨rfl, hb4⟩
          have B4 := hid (bnext B3.out hb4); have y4 := hid (bnext y2.out B4.out); clear hb4
          go_wp2_with fail
          refine (P3 _).out.mono ?_; rintro e w5 ⟨rfl, hb5⟩
          have B5 := hid (bnext B4.out hb5); clear hb5
          go_wp2_with fail
          refine (PHj _ _ (U2.out.call B5.out)).out.mono ?_; rintro e w6 ⟨rfl, hb6⟩
          have B6 := hid (bnext B5.out hb6); clear hb6
          go_wp2_with fail
          refine (PAj _).out.mono ?_; rintro e w7 ⟨rfl, hb7⟩
          have B7 := hid (bnext B6.out hb7); clear hb7
          go_wp2_with fail
          refine (P4 _ (HL.out.call (bnext y2.out B7.out)).l).out.mono ?_; rintro e w8 ⟨rfl, hb8⟩
          have B8 := hid (bnext B7.out hb8); clear hb8
          go_wp2_with fail
          refine (PCj _).out.mono ?_; rintro e w9 ⟨rfl, hb9⟩
          have B9 := hid (bnext B8.out hb9); clear hb9
          go_wp2_with fail
          refine (PPj _).out.mono ?_; rintro e wa ⟨rfl, hba⟩
          have BA := hid (bnext B9.out hba); clear hba
          go_wp2_with fail
          refine (PUj _).out.mono ?_; rintro e wb ⟨rfl, hbb⟩
          have BB := hid (bnext BA.out hbb); clear hbb
          go_wp2_with fail
          go_roundw
          case rel => exact ⟨j + 1, k + 1, rfl, rfl, hnx.out, by have := JN.out; omega, BB⟩
          case measure => simp [intOf] <;> (have := JN.out; have := HK.out; omega)
    · obtain rfl : j = N := by omega
      have t3 : decide (k ≤ (m : Int)) = false := decide_eq_false (by omega)
      rw [HALL.out]
      have q1 : ((j : Int) == (j : Int)) = true := by simp
      clear hlt hj hk hm8 hN1
      go_wp2_with fail
      go_ret
      exact ⟨rfl, yr.out⟩
set_option maxRecDepth 100000 in
set_option maxHeartbeats 4000000 in
theorem w_BellShape (w : World) (q : ByteArray) (t : Int) (hq : q.size ≤ maxLen) (hL : LayB w) :
    Calls Tryz.prog 4 #[.string q, .int .i64 t] w fun e w' => e = .returned (.bool true) ∧ Below w.heap.size w w' := by
  unfold maxLen at hq
  by_cases c1 : 6 < q.size
  · have HLV := hid (w_lives w hL.l)
    have t1 : decide ((6 : Int) < (q.size : Int)) = true := decide_eq_true (by omega)
    clear hL c1
    go_enter Tryz.func4, Tryz.ntmps4
    go_wp2_with fail
    refine HLV.out.mono ?_; rintro e w1 ⟨rfl, hb1⟩
    have y1 := hid hb1; clear hb1
    go_wp2_with fail
    go_ret
    exact ⟨rfl, y1.out⟩
  have t1 : decide ((6 : Int) < (q.size : Int)) = false := decide_eq_false (by omega)
  by_cases c2 : 8 < t ∧ t ≤ 16
  · have HLV := hid (w_lives w hL.l)
    have t2 : decide (8 < t) = true := decide_eq_true (by omega)
    have t3 : decide (t ≤ 16) = true := decide_eq_true (by omega)
    clear hL c1 c2
    go_enter Tryz.func4, Tryz.ntmps4
    go_wp2_with fail
    refine HLV.out.mono ?_; rintro e w1 ⟨rfl, hb1⟩
    have y1 := hid hb1; clear hb1
    go_wp2_with fail
    go_ret
    exact ⟨rfl, y1.out⟩
  by_cases h0 : beE q t = 0
  · obtain ⟨m, rfl, hm, -, -⟩ := beV_len h0
    exact be_shape w q m (by omega) (by omega) h0 hL
  have HLV := hid (w_lives w hL.l)
  have HL := hid hL
  have PX := fun V hV => hid (b_Exact V q t (by omega) hV)
  have PM := fun V hV => hid (b_Mass V q t 0 (by omega) hV)
  have e1 : bxR q t = [] := by unfold bxR; rw [if_neg h0]
  have e2 : bmE q t 0 = beE q t := by unfold bmE; rw [if_pos h0]
  rw [e1] at PX
  rw [e2] at PM
  obtain ⟨z, hz⟩ : ∃ z, beE q t = z := ⟨_, rfl⟩
  obtain ⟨R, hR⟩ : ∃ z, bmB q t 0 = z := ⟨_, rfl⟩
  rw [hz] at PX PM h0
  rw [hR] at PM
  have q0 : (z != 0) = true := by simpa using h0
  have q1 : (z == z) = true := by simp
  by_cases c3 : 8 < t
  · have t2 : decide (8 < t) = true := decide_eq_true (by omega)
    have t3 : decide (t ≤ 16) = false := decide_eq_false (by omega)
    clear hL c1 c2 c3 e1 e2 hz hR h0
    go_enter Tryz.func4, Tryz.ntmps4
    go_wp2_with fail
    refine HLV.out.mono ?_; rintro e w1 ⟨rfl, hb1⟩
    have y1 := hid hb1; clear hb1
    go_wp2_with fail
    refine (PX _ (HL.out.call y1.out)).out.mono ?_; rintro e w2 ⟨⟨u2, rfl, hu2⟩, hb2⟩
    have y2 := hid (bnext y1.out hb2)
    obtain ⟨a2, k2, rfl, -, -, -⟩ := hu2.ex
    clear hb2 hu2
    go_wp2_with fail
    refine (PM _ (HL.out.call y2.out).l).out.mono ?_; rintro e w3 ⟨rfl, hb3⟩
    have y3 := hid (bnext y2.out hb3); clear hb3
    go_wp2_with fail
    go_ret
    exact ⟨rfl, y3.out⟩
  · have t2 : decide (8 < t) = false := decide_eq_false (by omega)
    clear hL c1 c2 c3 e1 e2 hz hR h0
    go_enter Tryz.func4, Tryz.ntmps4
    go_wp2_with fail
    refine HLV.out.mono ?_; rintro e w1 ⟨rfl, hb1⟩
    have y1 := hid hb1; clear hb1
    go_wp2_with fail
    refine (PX _ (HL.out.call y1.out)).out.mono ?_; rintro e w2 ⟨⟨u2, rfl, hu2⟩, hb2⟩
    have y2 := hid (bnext y1.out hb2)
    obtain ⟨a2, k2, rfl, -, -, -⟩ := hu2.ex
    clear hb2 hu2
    go_wp2_with fail
    refine (PM _ (HL.out.call y2.out).l).out.mono ?_; rintro e w3 ⟨rfl, hb3⟩
    have y3 := hid (bnext y2.out hb3); clear hb3
    go_wp2_with fail
    go_ret
    exact ⟨rfl, y3.out⟩
end Go.Proofs.YtpheklgnmbpobaaGreatDoor
namespace Go.Proofs.YtpheklgnmbpobaaGreatDoor
open Go.RowKit
open Go.Lib (decDigits nDigits)
set_option linter.unusedVariables false
def qh : ByteArray := ⟨#[49, 47, 50]⟩
theorem en_a : beE ⟨#[49]⟩ 1 = 0 ∧ beW ⟨#[49]⟩ 1 = [⟨#[49]⟩, ⟨#[49]⟩, ⟨#[49]⟩] := by
  have h : beE ⟨#[49]⟩ 1 = 0 := by decide +kernel
  refine ⟨h, ?_⟩
  rw [(beV_W h).1]
  decide +kernel
theorem en_b : beE ⟨#[50, 47, 51]⟩ 0 = 0 ∧ beW ⟨#[50, 47, 51]⟩ 0 = [⟨#[49]⟩] := by
  have h : beE ⟨#[50, 47, 51]⟩ 0 = 0 := by decide +kernel
  refine ⟨h, ?_⟩
  rw [(beV_W h).1]
  decide +kernel
theorem bd_is {q : ByteArray} {t : Int} {b : ByteArray} {ws : List Nat} {r : Bool × Int × Int} (h : beE q t = 0) (hv : beV q t = ws) (hc : chkE b = 0) (hr : bsh t (pdr (pkF ws) 0 1 b.data.toList) = r) : bd3 q t b = r ∧ bdE q t b = 0 := by
  have hE : bdE q t b = 0 := by rw [(beV_drE h b).2]; exact hc
  refine ⟨?_, hE⟩
  unfold bd3
  rw [if_pos hE, hv]; exact hr
theorem bd_err {q : ByteArray} {t : Int} {b : ByteArray} {z : Int} (h : bdE q t b = z) (hz : z ≠ 0) : bd3 q t b = (false, 0, 0) ∧ bdE q t b = z := ⟨by unfold bd3; rw [if_neg (by rw [h]; exact hz)], h⟩
theorem hf_E : beE qh 1 = 0 ∧ beE qh 0 = 0 ∧ beE qh 2 = 0 := by decide +kernel
theorem hf_V : beV qh 1 = [1, 2, 1] ∧ beV qh 0 = [1] ∧ beV qh 2 = [1, 8, 16, 8, 1] := by decide +kernel
theorem en_c : bd3 qh 1 ⟨#[48, 49]⟩ = (true, 0, 2) ∧ bdE qh 1 ⟨#[48, 49]⟩ = 0 := bd_is hf_E.1 hf_V.1 (by decide) (by
  show bsh 1 (pdr (pkF [1, 2, 1]) 0 1 [48, 49]) = _
  rw [pdr_next (by decide), pdr_next (by decide), pdr_done (by decide)]
  decide)
theorem en_d : bd3 qh 0 ⟨#[]⟩ = (true, 0, 0) ∧ bdE qh 0 ⟨#[]⟩ = 0 := bd_is hf_E.2.1 hf_V.2.1 (by decide) (by
  show bsh 0 (pdr (pkF [1]) 0 1 []) = _
  rw [pdr_done (by decide)]
  decide)
theorem en_e : bd3 qh 1 ⟨#[49]⟩ = (false, 0, 1) ∧ bdE qh 1 ⟨#[49]⟩ = 0 := bd_is hf_E.1 hf_V.1 (by decide) (by
  show bsh 1 (pdr (pkF [1, 2, 1]) 0 1 [49]) = _
  rw [pdr_next (by decide), pdr_late (by decide)]
  decide)
theorem en_f : bmB qh 2 0 = ⟨#[56, 47, 49, 55]⟩ ∧ bmE qh 2 0 = 0 := by decide +kernel
theorem en_g : bmB qh 2 2 = ⟨#[49, 47, 51, 52]⟩ ∧ bmE qh 2 2 = 0 := by decide +kernel
theorem en_h : bmB qh 2 3 = ⟨#[]⟩ ∧ bmE qh 2 3 = 2 := by decide +kernel
theorem sortM_id' {L : List (ByteArray × ByteArray)} (h : L.Pairwise (fun p q => leB (keyL p) (keyL q) = true)) : sortM L = L := List.mergeSort_of_pairwise h
theorem en_i : bxR qh 1 = [(⟨#[45, 49]⟩, ⟨#[49, 47, 52]⟩), (⟨#[48]⟩, ⟨#[49, 47, 50]⟩), (⟨#[49]⟩, ⟨#[49, 47, 52]⟩)] := by
  unfold bxR
  rw [if_pos hf_E.1]
  unfold exR
  rw [if_pos (beV_wsE hf_E.1), sortM_map (exL_ShOk (by obtain ⟨m, -, hm, -, hl⟩ := beV_len hf_E.1; rw [hl]; omega)) (reads_exD (H := Unit) _ _ _).nd, (beV_W hf_E.1).2, hf_V.1]
  have hl : (beW qh 1).length = 3 := by rw [(beV_W hf_E.1).1, hf_V.1]; rfl
  rw [hl]
  have e : (exL [1, 2, 1] [1, 2, 1].sum 3).map (shP 1) = [(⟨#[45, 49]⟩, ⟨#[49, 47, 52]⟩), (⟨#[48]⟩, ⟨#[49, 47, 50]⟩), (⟨#[49]⟩, ⟨#[49, 47, 52]⟩)] := by decide +kernel
  rw [e]
  exact sortM_id' (by decide +kernel)
theorem en_j : blR qh 1 2 = [(⟨#[45, 49]⟩, ⟨#[49, 47, 52]⟩), (⟨#[48]⟩, ⟨#[49, 47, 50]⟩), (⟨#[49]⟩, ⟨#[49, 47, 52]⟩)] ∧ blE qh 1 2 = 0 := by
  have h : blE qh 1 2 = 0 := by decide +kernel
  refine ⟨?_, h⟩
  unfold blR
  rw [if_pos h]
  unfold lawR
  rw [if_pos ((beV_lawE hf_E.1 2).trans h), sortM_map (lawP_ShOk (by obtain ⟨m, -, hm, -, hl⟩ := beV_len hf_E.1; rw [hl]; omega)) (reads_lawM (H := Unit) _ _ _).nd, (beV_W hf_E.1).2, hf_V.1]
  have hl : (beW qh 1).length = 3 := by rw [(beV_W hf_E.1).1, hf_V.1]; rfl
  rw [hl]
  have e : (lawP [1, 2, 1] (2 ^ (2 : Int).toNat) 3).map (shP 1) = [(⟨#[45, 49]⟩, ⟨#[49, 47, 52]⟩), (⟨#[48]⟩, ⟨#[49, 47, 50]⟩), (⟨#[49]⟩, ⟨#[49, 47, 52]⟩)] := by decide +kernel
  rw [e]
  exact sortM_id' (by decide +kernel)
theorem en_k : btR ⟨#[49, 47, 51]⟩ 1 2 = ⟨#[49, 47, 50]⟩ ∧ blE ⟨#[49, 47, 51]⟩ 1 2 = 0 := by
  have h0 : beE ⟨#[49, 47, 51]⟩ 1 = 0 := by decide +kernel
  have h : blE ⟨#[49, 47, 51]⟩ 1 2 = 0 := by decide +kernel
  refine ⟨?_, h⟩
  unfold btR
  rw [if_pos h]
  unfold lateR
  rw [if_pos ((beV_lawE h0 2).trans h), (beV_W h0).2]
  have hl : (beW ⟨#[49, 47, 51]⟩ 1).length = 3 := by rw [(beV_W h0).1]; decide +kernel
  rw [hl]
  decide +kernel
theorem en_l : bd3 ⟨#[48]⟩ 1 ⟨#[48]⟩ = (false, 0, 0) ∧ bdE ⟨#[48]⟩ 1 ⟨#[48]⟩ = 2 := bd_err (by decide +kernel) (by decide)
theorem en_m : bd3 ⟨#[51, 47, 50]⟩ 1 ⟨#[48]⟩ = (false, 0, 0) ∧ bdE ⟨#[51, 47, 50]⟩ 1 ⟨#[48]⟩ = 2 := bd_err (by decide +kernel) (by decide)
theorem en_n : bd3 qh 17 ⟨#[48]⟩ = (false, 0, 0) ∧ bdE qh 17 ⟨#[48]⟩ = 2 := bd_err (by decide +kernel) (by decide)
theorem en_p : bd3 qh 1 ⟨#[50]⟩ = (false, 0, 0) ∧ bdE qh 1 ⟨#[50]⟩ = 3 := bd_err (by decide +kernel) (by decide)
theorem en_q : blR qh 1 257 = [] ∧ blE qh 1 257 = 2 := by
  have h : blE qh 1 257 = 2 := by decide +kernel
  exact ⟨by unfold blR; rw [h]; rfl, h⟩
theorem en_r : btR ⟨#[50, 47, 52]⟩ 1 2 = ⟨#[]⟩ ∧ blE ⟨#[50, 47, 52]⟩ 1 2 = 3 := by
  have h : blE ⟨#[50, 47, 52]⟩ 1 2 = 3 := by decide +kernel
  exact ⟨by unfold btR; rw [h]; rfl, h⟩
def qz : ByteArray := ⟨#[49, 47, 49, 48, 48, 48, 48, 48, 48, 48, 48, 48, 48, 48, 48, 48, 48, 48]⟩
theorem qz_parts : qE qz = 0 ∧ cW qz = ⟨#[49]⟩ ∧ bN ⟨#[49]⟩ = 1 ∧ bN (qD qz) = 1000000000000000 ∧ iM ⟨#[49]⟩ = false := by decide +kernel
theorem big_dig {e : Nat} (he : e = 3800) : ¬ nDigits (beN 1 1000000000000000 16 0) ≤ e := fun h => by
  have h1 := nd_lt h
  have h2 : beN 1 1000000000000000 16 0 = 1000000000000000 ^ 256 := by
    unfold beN
    rw [Nat.one_pow, Nat.one_mul]
  have h5 : ∀ f, f = 256 → (10 : Nat) ^ e ≤ (10 ^ 15) ^ f := fun f hf => by
    rw [← Nat.pow_mul]
    exact Nat.pow_le_pow_right (by omega) (by omega)
  have h3 : (10 : Nat) ^ e ≤ 1000000000000000 ^ 256 := h5 256 rfl
  rw [h2] at h1
  omega
theorem en_o : beE qz 16 = 5 ∧ beW qz 16 = [] := by
  obtain ⟨h1, h2, h3, h4, h5⟩ := qz_parts
  have h : beE qz 16 = 5 := by
    unfold beE
    rw [h1, h2, h3, h4, h5, if_neg (by simp), if_neg ?_, if_pos ?_]
    · rw [List.any_eq_true]
      refine ⟨0, List.mem_range.2 (by decide), decide_eq_true ?_⟩
      have := big_dig (e := 3800) rfl
      exact Nat.lt_of_not_le this
    · rintro (h | h | h | h | h)
      · exact absurd h (by decide)
      · cases h
      · omega
      · omega
      · omega
  exact ⟨h, by unfold beW; rw [h]; rfl⟩
end Go.Proofs.YtpheklgnmbpobaaGreatDoor
namespace Go.Proofs.YtpheklgnmbpobaaGreatDoor
open Go.RowKit Go.Shelf
open Go.Lib (decDigits nDigits)
set_option linter.unusedVariables false
set_option linter.unusedSimpArgs false
set_option maxRecDepth 100000 in
set_option maxHeartbeats 8000000 in
theorem w_BellNames (w : World) (hL : LayB w) :
    Calls Tryz.prog 6 #[] w fun e w' => e = .returned (.bool true) ∧ Below w.heap.size w w' := by
  have HLV := hid (w_lives w hL.l)
  have HL := hid hL
  have Pa := fun V hLV => hid (b_Weights V ⟨#[49]⟩ 1 (by decide) hLV)
  rw [en_a.1, en_a.2] at Pa
  have Pb := fun V hLV => hid (b_Weights V ⟨#[50, 47, 51]⟩ 0 (by decide) hLV)
  rw [en_b.1, en_b.2] at Pb
  have Pc := fun V hLV => hid (b_Draw V qh 1 ⟨#[48, 49]⟩ (by decide) (by decide) hLV)
  rw [en_c.1, en_c.2] at Pc
  simp only [bV] at Pc
  have Pd := fun V hLV => hid (b_Draw V qh 0 ⟨#[]⟩ (by decide) (by decide) hLV)
  rw [en_d.1, en_d.2] at Pd
  simp only [bV] at Pd
  have Pe := fun V hLV => hid (b_Draw V qh 1 ⟨#[49]⟩ (by decide) (by decide) hLV)
  rw [en_e.1, en_e.2] at Pe
  simp only [bV] at Pe
  have Pf := fun V hLV => hid (b_Mass V qh 2 0 (by decide) hLV)
  rw [en_f.1, en_f.2] at Pf
  have Pg := fun V hLV => hid (b_Mass V qh 2 2 (by decide) hLV)
  rw [en_g.1, en_g.2] at Pg
  have Ph := fun V hLV => hid (b_Mass V qh 2 3 (by decide) hLV)
  rw [en_h.1, en_h.2] at Ph
  have Pi := fun V hLV => hid (b_Exact V qh 1 (by decide) hLV)
  rw [hf_E.1, en_i] at Pi
  have Pj := fun V hLV => hid (b_Law V qh 1 2 (by decide) hLV)
  rw [en_j.1, en_j.2] at Pj
  have Pq := fun V hLV => hid (b_Law V qh 1 257 (by decide) hLV)
  rw [en_q.1, en_q.2] at Pq
  have Pk := fun V hLV => hid (b_Late V ⟨#[49, 47, 51]⟩ 1 2 (by decide) hLV)
  rw [en_k.1, en_k.2] at Pk
  have Pr := fun V hLV => hid (b_Late V ⟨#[50, 47, 52]⟩ 1 2 (by decide) hLV)
  rw [en_r.1, en_r.2] at Pr
  have Pl := fun V hLV => hid (b_Draw V ⟨#[48]⟩ 1 ⟨#[48]⟩ (by decide) (by decide) hLV)
  rw [en_l.1, en_l.2] at Pl
  simp only [bV] at Pl
  have Pm := fun V hLV => hid (b_Draw V ⟨#[51, 47, 50]⟩ 1 ⟨#[48]⟩ (by decide) (by decide) hLV)
  rw [en_m.1, en_m.2] at Pm
  simp only [bV] at Pm
  have Pn := fun V hLV => hid (b_Draw V qh 17 ⟨#[48]⟩ (by decide) (by decide) hLV)
  rw [en_n.1, en_n.2] at Pn
  simp only [bV] at Pn
  have Pp := fun V hLV => hid (b_Draw V qh 1 ⟨#[50]⟩ (by decide) (by decide) hLV)
  rw [en_p.1, en_p.2] at Pp
  simp only [bV] at Pp
  have Po := fun V hLV => hid (b_Weights V qz 16 (by decide) hLV)
  rw [en_o.1, en_o.2] at Po
  unfold qh at Pc Pd Pe Pf Pg Ph Pi Pj Pq Pn Pp
  unfold qz at Po
  clear hL
  go_enter Tryz.func6, Tryz.ntmps6
  go_wp2_with fail
  refine HLV.out.mono ?_; rintro e w0 ⟨rfl, hb0⟩
  have y0 := hid hb0; clear hb0
  go_wp2_with fail
  refine (Pa _ (HL.out.call y0.out).l).out.mono ?_; rintro e w1 ⟨⟨ua, rfl, ha⟩, hb1⟩
  have b1 := hid hb1
  clear hb1
  have B1 := hid b1.out
  have y1 := hid (bnext y0.out B1.out)
  have Xa := hid ha; obtain ⟨aa, ca, rfl, -⟩ := ha.openS; clear ha
  simp only [List.length_cons, List.length_nil] at Xa ⊢
  go_wp2_with fail
  refine (Pb _ (HL.out.call y1.out).l).out.mono ?_; rintro e w2 ⟨⟨ub, rfl, hb⟩, hb2⟩
  have b2 := hid hb2
  clear hb2
  have B2 := hid b2.out
  have y2 := hid (bnext y1.out B2.out)
  have Xb := hid hb; obtain ⟨ab, cb, rfl, -⟩ := hb.openS; clear hb
  simp only [List.length_cons, List.length_nil] at Xb ⊢
  go_wp2_with fail
  refine (Pc _ (HL.out.call y2.out).l).out.mono ?_; rintro e w3 ⟨rfl, hb3⟩
  have b3 := hid hb3
  clear hb3
  have Xc := hid (Blk.new w3 #[.bool true, .int .i64 0, .int .i64 2] 33)
  have B3 := hid (bnext b3.out ((Below.refl w3.heap.size w3).alloc (Nat.le_refl _) (.cells #[.bool true, .int .i64 0, .int .i64 2] 33)))
  have y3 := hid (bnext y2.out B3.out)
  go_wp2_with fail
  refine (Pd _ (HL.out.call y3.out).l).out.mono ?_; rintro e w4 ⟨rfl, hb4⟩
  have b4 := hid hb4
  clear hb4
  have Xd := hid (Blk.new w4 #[.bool true, .int .i64 0, .int .i64 0] 33)
  have B4 := hid (bnext b4.out ((Below.refl w4.heap.size w4).alloc (Nat.le_refl _) (.cells #[.bool true, .int .i64 0, .int .i64 0] 33)))
  have y4 := hid (bnext y3.out B4.out)
  go_wp2_with fail
  refine (Pe _ (HL.out.call y4.out).l).out.mono ?_; rintro e w5 ⟨rfl, hb5⟩
  have b5 := hid hb5
  clear hb5
  have Xe := hid (Blk.new w5 #[.bool false, .int .i64 0, .int .i64 1] 33)
  have B5 := hid (bnext b5.out ((Below.refl w5.heap.size w5).alloc (Nat.le_refl _) (.cells #[.bool false, .int .i64 0, .int .i64 1] 33)))
  have y5 := hid (bnext y4.out B5.out)
  go_wp2_with fail
  refine (Pf _ (HL.out.call y5.out).l).out.mono ?_; rintro e w6 ⟨rfl, hb6⟩
  have b6 := hid hb6
  clear hb6
  have B6 := hid b6.out
  have y6 := hid (bnext y5.out B6.out)
  go_wp2_with fail
  refine (Pg _ (HL.out.call y6.out).l).out.mono ?_; rintro e w7 ⟨rfl, hb7⟩
  have b7 := hid hb7
  clear hb7
  have B7 := hid b7.out
  have y7 := hid (bnext y6.out B7.out)
  go_wp2_with fail
  refine (Ph _ (HL.out.call y7.out).l).out.mono ?_; rintro e w8 ⟨rfl, hb8⟩
  have b8 := hid hb8
  clear hb8
  have B8 := hid b8.out
  have y8 := hid (bnext y7.out B8.out)
  go_wp2_with fail
  refine (Pi _ (HL.out.call y8.out)).out.mono ?_; rintro e w9 ⟨⟨ui, rfl, hi⟩, hb9⟩
  have b9 := hid hb9
  clear hb9
  have B9 := hid b9.out
  have y9 := hid (bnext y8.out B9.out)
  have Xi := hid hi; obtain ⟨ai, ci, rfl, -⟩ := hi.ex; clear hi
  simp only [List.length_cons, List.length_nil] at Xi ⊢
  go_wp2_with fail
  refine (Pj _ (HL.out.call y9.out)).out.mono ?_; rintro e w10 ⟨⟨uj, rfl, hj⟩, hb10⟩
  have b10 := hid hb10
  clear hb10
  have B10 := hid b10.out
  have y10 := hid (bnext y9.out B10.out)
  have Xj := hid hj; obtain ⟨aj, cj, rfl, -⟩ := hj.ex; clear hj
  simp only [List.length_cons, List.length_nil] at Xj ⊢
  go_wp2_with fail
  refine (Pk _ (HL.out.call y10.out).l).out.mono ?_; rintro e w11 ⟨rfl, hb11⟩
  have b11 := hid hb11
  clear hb11
  have B11 := hid b11.out
  have y11 := hid (bnext y10.out B11.out)
  go_wp2_with fail
  refine (Pl _ (HL.out.call y11.out).l).out.mono ?_; rintro e w12 ⟨rfl, hb12⟩
  have b12 := hid hb12
  clear hb12
  have Xl := hid (Blk.new w12 #[.bool false, .int .i64 0, .int .i64 0] 33)
  have B12 := hid (bnext b12.out ((Below.refl w12.heap.size w12).alloc (Nat.le_refl _) (.cells #[.bool false, .int .i64 0, .int .i64 0] 33)))
  have y12 := hid (bnext y11.out B12.out)
  go_wp2_with fail
  refine (Pm _ (HL.out.call y12.out).l).out.mono ?_; rintro e w13 ⟨rfl, hb13⟩
  have b13 := hid hb13
  clear hb13
  have Xm := hid (Blk.new w13 #[.bool false, .int .i64 0, .int .i64 0] 33)
  have B13 := hid (bnext b13.out ((Below.refl w13.heap.size w13).alloc (Nat.le_refl _) (.cells #[.bool false, .int .i64 0, .int .i64 0] 33)))
  have y13 := hid (bnext y12.out B13.out)
  go_wp2_with fail
  refine (Pn _ (HL.out.call y13.out).l).out.mono ?_; rintro e w14 ⟨rfl, hb14⟩
  have b14 := hid hb14
  clear hb14
  have Xn := hid (Blk.new w14 #[.bool false, .int .i64 0, .int .i64 0] 33)
  have B14 := hid (bnext b14.out ((Below.refl w14.heap.size w14).alloc (Nat.le_refl _) (.cells #[.bool false, .int .i64 0, .int .i64 0] 33)))
  have y14 := hid (bnext y13.out B14.out)
  go_wp2_with fail
  refine (Po _ (HL.out.call y14.out).l).out.mono ?_; rintro e w15 ⟨⟨uo, rfl, ho⟩, hb15⟩
  have b15 := hid hb15
  clear hb15
  have B15 := hid b15.out
  have y15 := hid (bnext y14.out B15.out)
  obtain ⟨ao, co, rfl, -⟩ := ho.openS; clear ho
  simp only [List.length_nil]
  go_wp2_with fail
  refine (Pp _ (HL.out.call y15.out).l).out.mono ?_; rintro e w16 ⟨rfl, hb16⟩
  have b16 := hid hb16
  clear hb16
  have Xp := hid (Blk.new w16 #[.bool false, .int .i64 0, .int .i64 0] 33)
  have B16 := hid (bnext b16.out ((Below.refl w16.heap.size w16).alloc (Nat.le_refl _) (.cells #[.bool false, .int .i64 0, .int .i64 0] 33)))
  have y16 := hid (bnext y15.out B16.out)
  go_wp2_with fail
  refine (Pq _ (HL.out.call y16.out)).out.mono ?_; rintro e w17 ⟨⟨uq, rfl, hq⟩, hb17⟩
  have b17 := hid hb17
  clear hb17
  have B17 := hid b17.out
  have y17 := hid (bnext y16.out B17.out)
  obtain ⟨aq, cq, rfl, -⟩ := hq.ex; clear hq
  simp only [List.length_nil]
  go_wp2_with fail
  refine (Pr _ (HL.out.call y17.out).l).out.mono ?_; rintro e w18 ⟨rfl, hb18⟩
  have b18 := hid hb18
  clear hb18
  have B18 := hid b18.out
  have y18 := hid (bnext y17.out B18.out)
  have BE := hid ((Below.refl _ w18).alloc (Nat.le_refl _) (.cells #[.string ⟨#[45, 49]⟩, .string ⟨#[49, 47, 52]⟩, .string ⟨#[48]⟩, .string ⟨#[49, 47, 50]⟩, .string ⟨#[49]⟩, .string ⟨#[49, 47, 52]⟩] 31))
  have ME : Hid (MRow (w18.alloc (.cells #[.string ⟨#[45, 49]⟩, .string ⟨#[49, 47, 52]⟩, .string ⟨#[48]⟩, .string ⟨#[49, 47, 50]⟩, .string ⟨#[49]⟩, .string ⟨#[49, 47, 52]⟩] 31)) (.slice (some ⟨w18.heap.size, 0, none⟩) 3 3) [(⟨#[45, 49]⟩, ⟨#[49, 47, 52]⟩), (⟨#[48]⟩, ⟨#[49, 47, 50]⟩), (⟨#[49]⟩, ⟨#[49, 47, 52]⟩)]) := mrow_lit w18 [(⟨#[45, 49]⟩, ⟨#[49, 47, 52]⟩), (⟨#[48]⟩, ⟨#[49, 47, 50]⟩), (⟨#[49]⟩, ⟨#[49, 47, 52]⟩)] 3 rfl (by decide)
  have yE := hid (bnext y18.out BE.out)
  have A19 := hid ((Below.refl _ (w18.alloc (.cells #[.string ⟨#[45, 49]⟩, .string ⟨#[49, 47, 52]⟩, .string ⟨#[48]⟩, .string ⟨#[49, 47, 50]⟩, .string ⟨#[49]⟩, .string ⟨#[49, 47, 52]⟩] 31))).alloc (Nat.le_refl _) (.cells #[.string ⟨#[49]⟩, .string ⟨#[49]⟩, .string ⟨#[49]⟩] 22))
  have M19 : Hid (Row ((w18.alloc (.cells #[.string ⟨#[45, 49]⟩, .string ⟨#[49, 47, 52]⟩, .string ⟨#[48]⟩, .string ⟨#[49, 47, 50]⟩, .string ⟨#[49]⟩, .string ⟨#[49, 47, 52]⟩] 31)).alloc (.cells #[.string ⟨#[49]⟩, .string ⟨#[49]⟩, .string ⟨#[49]⟩] 22)) (.slice (some ⟨w18.heap.size + 1, 0, none⟩) 3 3) (strs [⟨#[49]⟩, ⟨#[49]⟩, ⟨#[49]⟩])) := by
    rw [show w18.heap.size + 1 = ((w18.alloc (.cells #[.string ⟨#[45, 49]⟩, .string ⟨#[49, 47, 52]⟩, .string ⟨#[48]⟩, .string ⟨#[49, 47, 50]⟩, .string ⟨#[49]⟩, .string ⟨#[49, 47, 52]⟩] 31))).heap.size by simp]
    exact row_lit (w18.alloc (.cells #[.string ⟨#[45, 49]⟩, .string ⟨#[49, 47, 52]⟩, .string ⟨#[48]⟩, .string ⟨#[49, 47, 50]⟩, .string ⟨#[49]⟩, .string ⟨#[49, 47, 52]⟩] 31)) [⟨#[49]⟩, ⟨#[49]⟩, ⟨#[49]⟩] 3 rfl (by decide)
  have S19 := hid (k_SameS ((w18.alloc (.cells #[.string ⟨#[45, 49]⟩, .string ⟨#[49, 47, 52]⟩, .string ⟨#[48]⟩, .string ⟨#[49, 47, 50]⟩, .string ⟨#[49]⟩, .string ⟨#[49, 47, 52]⟩] 31)).alloc (.cells #[.string ⟨#[49]⟩, .string ⟨#[49]⟩, .string ⟨#[49]⟩] 22)) _ _ [⟨#[49]⟩, ⟨#[49]⟩, ⟨#[49]⟩] [⟨#[49]⟩, ⟨#[49]⟩, ⟨#[49]⟩] (((((((((((((((((((Xa.out.call B2.out).call B3.out).call B4.out).call B5.out).call B6.out).call B7.out).call B8.out).call B9.out).call B10.out).call B11.out).call B12.out).call B13.out).call B14.out).call B15.out).call B16.out).call B17.out).call B18.out).call BE.out).call A19.out) M19.out)
  rw [decide_eq_true rfl] at S19
  go_wp2_with fail
  refine S19.out.mono ?_; rintro e w19 ⟨rfl, hb19⟩
  have B19 := hid (bnext A19.out hb19)
  clear hb19
  have y19 := hid (bnext yE.out B19.out)
  have A20 := hid ((Below.refl _ w19).alloc (Nat.le_refl _) (.cells #[.string ⟨#[49]⟩] 22))
  have M20 : Hid (Row (w19.alloc (.cells #[.string ⟨#[49]⟩] 22)) (.slice (some ⟨w19.heap.size, 0, none⟩) 1 1) (strs [⟨#[49]⟩])) := by
    exact row_lit w19 [⟨#[49]⟩] 1 rfl (by decide)
  have S20 := hid (k_SameS (w19.alloc (.cells #[.string ⟨#[49]⟩] 22)) _ _ [⟨#[49]⟩] [⟨#[49]⟩] (((((((((((((((((((Xb.out.call B3.out).call B4.out).call B5.out).call B6.out).call B7.out).call B8.out).call B9.out).call B10.out).call B11.out).call B12.out).call B13.out).call B14.out).call B15.out).call B16.out).call B17.out).call B18.out).call BE.out).call B19.out).call A20.out) M20.out)
  rw [decide_eq_true rfl] at S20
  go_wp2_with fail
  refine S20.out.mono ?_; rintro e w20 ⟨rfl, hb20⟩
  have B20 := hid (bnext A20.out hb20)
  clear hb20
  have y20 := hid (bnext y19.out B20.out)
  have Zc := hid ((((((((((((((((((Xc.out.call B4.out).call B5.out).call B6.out).call B7.out).call B8.out).call B9.out).call B10.out).call B11.out).call B12.out).call B13.out).call B14.out).call B15.out).call B16.out).call B17.out).call B18.out).call BE.out).call B19.out).call B20.out)
  have rc0 := Zc.out.cell 0
  have rc1 := Zc.out.cell 1
  have rc2 := Zc.out.cell 2
  simp at rc0 rc1 rc2
  have Zd := hid (((((((((((((((((Xd.out.call B5.out).call B6.out).call B7.out).call B8.out).call B9.out).call B10.out).call B11.out).call B12.out).call B13.out).call B14.out).call B15.out).call B16.out).call B17.out).call B18.out).call BE.out).call B19.out).call B20.out)
  have rd0 := Zd.out.cell 0
  have rd1 := Zd.out.cell 1
  have rd2 := Zd.out.cell 2
  simp at rd0 rd1 rd2
  have Ze := hid ((((((((((((((((Xe.out.call B6.out).call B7.out).call B8.out).call B9.out).call B10.out).call B11.out).call B12.out).call B13.out).call B14.out).call B15.out).call B16.out).call B17.out).call B18.out).call BE.out).call B19.out).call B20.out)
  have re0 := Ze.out.cell 0
  have re1 := Ze.out.cell 1
  have re2 := Ze.out.cell 2
  simp at re0 re1 re2
  have S21 := hid (k_SameM w20 _ _ [(⟨#[45, 49]⟩, ⟨#[49, 47, 52]⟩), (⟨#[48]⟩, ⟨#[49, 47, 50]⟩), (⟨#[49]⟩, ⟨#[49, 47, 52]⟩)] [(⟨#[45, 49]⟩, ⟨#[49, 47, 52]⟩), (⟨#[48]⟩, ⟨#[49, 47, 50]⟩), (⟨#[49]⟩, ⟨#[49, 47, 52]⟩)] ((((((((((((Xi.out.call B10.out).call B11.out).call B12.out).call B13.out).call B14.out).call B15.out).call B16.out).call B17.out).call B18.out).call BE.out).call B19.out).call B20.out) ((ME.out.call B19.out).call B20.out))
  rw [decide_eq_true rfl] at S21
  go_wp2_with fail
  refine S21.out.mono ?_; rintro e w21 ⟨rfl, B21⟩
  have B21 := hid B21
  have y21 := hid (bnext y20.out B21.out)
  have S22 := hid (k_SameM w21 _ _ [(⟨#[45, 49]⟩, ⟨#[49, 47, 52]⟩), (⟨#[48]⟩, ⟨#[49, 47, 50]⟩), (⟨#[49]⟩, ⟨#[49, 47, 52]⟩)] [(⟨#[45, 49]⟩, ⟨#[49, 47, 52]⟩), (⟨#[48]⟩, ⟨#[49, 47, 50]⟩), (⟨#[49]⟩, ⟨#[49, 47, 52]⟩)] ((((((((((((Xj.out.call B11.out).call B12.out).call B13.out).call B14.out).call B15.out).call B16.out).call B17.out).call B18.out).call BE.out).call B19.out).call B20.out).call B21.out) (((ME.out.call B19.out).call B20.out).call B21.out))
  rw [decide_eq_true rfl] at S22
  go_wp2_with fail
  refine S22.out.mono ?_; rintro e w22 ⟨rfl, B22⟩
  have B22 := hid B22
  have y22 := hid (bnext y21.out B22.out)
  go_wp2_with fail
  go_ret
  exact ⟨rfl, y22.out⟩
end Go.Proofs.YtpheklgnmbpobaaGreatDoor
