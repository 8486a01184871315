/- Texts that the proof rests on, merged: R1j, R2a, R2m, R1o, R1c, R3a, Pc2, Pc3, Bl6, KoS, Zs, Lits, Bv0, Sh6, Sm, Sh7, Cv8, Gd0, SmB, Bl3, Bl7, Bc0, Bg, Rp1. -/
import Derived.Test.YtpheklgnmbpobaaGreatDoorKr7
import Derived.Laws.Concat
import Derived.Shelf.SlSortCmp.WholeK
import Derived.Shelf.SlGeneric
import Derived.Shelf.Small.Bits
import Derived.Ground.SlsfProg
import Derived.Ground.NamesProg
import Derived.Test.YtpheklgnmbpobaaGreatDoorProg
import Derived.Sort.OwnSortedInts
import Derived.WalkLawsBesides
import Derived.Sort.Walk0
import Derived.Shelf.SlSortCmp.NoneTotal
import Derived.Deep.DeepCutAuto
namespace Go.Proofs.YtpheklgnmbpobaaGreatDoor
open Go.RowKit
set_option linter.unusedVariables false
set_option maxHeartbeats 2000000 in
theorem r1_Common (w : World) (v u : Value) (a b : Nat) (ha : IsN .i64 w v a) (hb : IsN .i64 w u b) (hla : (limbs a).length ≤ 1000000) (hlb : (limbs b).length ≤ 1000000) :
    Calls Tryz.prog 109 #[v, u] w fun e w' => RetN .i64 (Nat.gcd a b) e w' ∧ Below w.heap.size w w' := by
  have HA := hid ha; have HB := hid hb; have LA := hid hla; have LB := hid hlb
  clear ha hb hla hlb
  go_enter Tryz.func109, Tryz.ntmps109
  go_wp2_with fail
  go_loopw [0, 1, 5, 6] (fun x y q r wr => ∃ m n : Nat, Hid (IsN .i64 wr x m) ∧ Hid (IsN .i64 wr y n) ∧ Hid ((limbs m).length ≤ 1000000) ∧ Hid ((limbs n).length ≤ 1000000) ∧ Hid (Nat.gcd m n = Nat.gcd a b) ∧ Hid (Below w.heap.size w wr))
    (fun x y q r wr => numOf .i64 wr y)
  case atStart => exact ⟨a, b, HA, HB, LA, LB, rfl, Below.refl _ _⟩
  case round =>
    obtain ⟨m, n, hx, hy, hm, hn, hg, hB⟩ := hrel
    have hnum := hid (numOf_eq hy.out)
    obtain ⟨a1, c1, rfl, h1, h1', h1''⟩ := hx.out.openI
    obtain ⟨a2, c2, rfl, h2, h2', h2''⟩ := hy.out.openI
    clear h1'' h2''
    by_cases h0 : n = 0
    · subst h0
      have hl : (limbs 0).length = 0 := by rw [limbs_zero]; rfl
      rw [hl] at *
      clear hl
      go_wp2_with fail
      go_ret
      exact ⟨⟨_, rfl, by rw [← hg.out, Nat.gcd_zero_right]; exact hx.out⟩, hB.out⟩
    · have hpos : 0 < (limbs n).length := List.length_pos_iff.2 (fun e => h0 (limbs_nil.1 e))
      have q0 : decide ((0 : Int) < ((limbs n).length : Int)) = true := by simp; omega
      go_wp2_with fail
      refine (r1_Divide _ _ _ m n hx.out hy.out (by omega) hm.out).mono ?_
      rintro e w1 ⟨⟨v1, v2, rfl, hv1, hv2⟩, hb1⟩
      have V2 := hid hv2; have B1 := hid (bnext hB.out hb1); have Y1 := hid (hy.out.call hb1)
      have hlt := hid (Nat.mod_lt m (y := n) (by omega))
      have hll := hid (show (limbs (m % n)).length ≤ 1000000 from Nat.le_trans (limbs_length_mono (Nat.le_of_lt hlt.out)) hn.out)
      have hgg := hid (show Nat.gcd n (m % n) = Nat.gcd a b from by rw [← hg.out, Nat.gcd_comm m n, Nat.gcd_rec n m, Nat.gcd_comm]) 
      clear hv1 hv2 hb1
      go_wp2_with fail
      go_roundw
      case rel => exact ⟨n, m % n, Y1, V2, hn, hll, hgg, B1⟩
      case measure => rw [numOf_eq V2.out, hnum.out]; exact hlt.out
end Go.Proofs.YtpheklgnmbpobaaGreatDoor
namespace Go.Proofs.YtpheklgnmbpobaaGreatDoor
open Go.RowKit
open Go.Lib (decDigits nDigits)
set_option linter.unusedVariables false
theorem r2_one (w : World) : Calls Tryz.prog 46 #[] w fun e w' => RetN .i64 1 e w' ∧ Below w.heap.size w w' := by
  have H1 := hid (isN_one w)
  go_enter Tryz.func46, Tryz.ntmps46
  go_wp2_with fail
  go_ret
  exact ⟨⟨_, rfl, H1.out⟩, (Below.refl _ _).alloc (Nat.le_refl _) _⟩
set_option maxHeartbeats 1000000 in
theorem r2_Reduce (w : World) (m : Bool) (v u : Value) (n d : Nat) (hn : IsN .i64 w v n) (hd : IsN .i64 w u d) (h0 : 0 < d) (hln : (limbs n).length ≤ 1000000) (hld : (limbs d).length ≤ 1000000) :
    Calls Tryz.prog 103 #[.bool m, v, u] w fun e w' => RetQ .i64 (qmk m n d) e w' ∧ Below w.heap.size w w' := by
  have HN := hid hn; have HD := hid hd
  obtain ⟨a1, c1, rfl, _⟩ := hn.openI
  obtain ⟨a2, c2, rfl, _⟩ := hd.openI
  clear hn hd
  rcases Nat.eq_zero_or_pos n with rfl | hp
  · have hl : (limbs 0).length = 0 := by rw [limbs_zero]; rfl
    rw [hl] at HN ⊢
    have hq := hid (qmk_zero m d)
    rw [hq.out]
    clear hl
    go_enter Tryz.func103, Tryz.ntmps103
    go_wp2_with fail
    refine (r2_one _).mono ?_; rintro e w1 ⟨⟨v1, rfl, hv1⟩, hb1⟩
    obtain ⟨a3, c3, rfl, _⟩ := hv1.openI
    have HV := hid hv1
    have HB := hid (show Blk w1 w.heap.size #[.bool false, .slice none 0 0, .slice none 0 0] 75 from (Blk.new w _ _).call hb1)
    have d0 := HB.out.cell 0
    have d1 := HB.out.cell 1
    have d2 := HB.out.cell 2
    have e0 := HB.out.free 0
    have e1 := HB.out.free 1
    have e2 := HB.out.free 2
    have HBB := hid hb1
    clear hb1 hv1
    simp at d0 d1 d2
    go_wp2_with fail
    obtain ⟨s1, s2⟩ := set3 HB.out false none a3 0 0 (limbs 1).length c3
    have f0 := s2.cell 0
    have f1 := s2.cell 1
    have f2 := s2.cell 2
    simp at f0 f1 f2
    refine bodyPost_ret (v := .agg #[.bool false, .slice none 0 0, .slice a3 (limbs 1).length c3]) (by simp [results, Tryz.results103, go_sem, f0, f1, f2]) rfl ⟨⟨_, rfl, IsQ.zero_ (s1 _ _ _ (IsN.zero _ _)) (s1 _ _ _ HV.out)⟩, ?_⟩
    exact (((((Below.refl _ _).alloc (Nat.le_refl _) _).trans (HBB.out.mono (by simp))).setCell (Nat.le_refl _) _).setCell (Nat.le_refl _) _).setCell (Nat.le_refl _) _
  · have hpos : 0 < (limbs n).length := List.length_pos_iff.2 (fun e => by have := limbs_nil.1 e; omega)
    have q0 : (((limbs n).length : Int) == 0) = false := beq_eq_false_iff_ne.2 (by omega)
    obtain ⟨g, hg⟩ : ∃ g, Nat.gcd n d = g := ⟨_, rfl⟩
    have hgp : 0 < g := hg ▸ Nat.gcd_pos_of_pos_left d hp
    have HG := hid hg; have HGP := hid hgp; have HP := hid hp; have H0 := hid h0; have HLN := hid hln; have HLD := hid hld
    clear hg hgp hp h0 hln hld hpos
    go_enter Tryz.func103, Tryz.ntmps103
    go_wp2_with fail
    refine (r1_Common _ _ _ n d (HN.out.call ((Below.refl _ _).alloc (Nat.le_refl _) _)) (HD.out.call ((Below.refl _ _).alloc (Nat.le_refl _) _)) HLN.out HLD.out).mono ?_
    rintro e w1 ⟨⟨v1, rfl, hv1⟩, hb1⟩
    rw [HG.out] at hv1
    have HB1 := hid (show Blk w1 w.heap.size #[.bool false, .slice none 0 0, .slice none 0 0] 75 from (Blk.new w _ _).call hb1)
    have B1 := hid (((Below.refl w.heap.size w).alloc (Nat.le_refl _) (.cells #[.bool false, .slice none 0 0, .slice none 0 0] 75)).trans (hb1.mono (by simp)))
    have N1 := hid (HN.out.call B1.out); have D1 := hid (HD.out.call B1.out); have G1 := hid hv1
    clear hb1 hv1
    go_wp2_with fail
    refine (r1_Divide _ _ _ n g N1.out G1.out HGP.out HLN.out).mono ?_
    rintro e w2 ⟨⟨v2, v3, rfl, hv2, -⟩, hb2⟩
    have HB2 := hid (HB1.out.call hb2); have B2 := hid (bnext B1.out hb2); have D2 := hid (D1.out.call hb2); have G2 := hid (G1.out.call hb2); have V2 := hid hv2
    clear hb2 hv2
    go_wp2_with fail
    refine (r1_Divide _ _ _ d g D2.out G2.out HGP.out HLD.out).mono ?_
    rintro e w3 ⟨⟨v4, v5, rfl, hv4, -⟩, hb3⟩
    have HB3 := hid (HB2.out.call hb3); have B3 := hid (bnext B2.out hb3); have W2 := hid (V2.out.call hb3); have W4 := hid hv4
    clear hb3 hv4
    obtain ⟨a3, c3, rfl, _⟩ := W2.out.openI
    obtain ⟨a4, c4, rfl, _⟩ := W4.out.openI
    have d0 := HB3.out.cell 0
    have d1 := HB3.out.cell 1
    have d2 := HB3.out.cell 2
    have e0 := HB3.out.free 0
    have e1 := HB3.out.free 1
    have e2 := HB3.out.free 2
    simp at d0 d1 d2
    go_wp2_with fail
    obtain ⟨s1, s2⟩ := set3 HB3.out m a3 a4 (limbs (n / g)).length c3 (limbs (d / g)).length c4
    have f0 := s2.cell 0
    have f1 := s2.cell 1
    have f2 := s2.cell 2
    simp at f0 f1 f2
    refine bodyPost_ret (v := .agg #[.bool m, .slice a3 (limbs (n / g)).length c3, .slice a4 (limbs (d / g)).length c4]) (by simp [results, Tryz.results103, go_sem, f0, f1, f2]) rfl ⟨⟨_, rfl, IsQ.mk' HP.out H0.out (HG.out ▸ s1 _ _ _ W2.out) (HG.out ▸ s1 _ _ _ W4.out)⟩, ?_⟩
    exact ((B3.out.setCell (Nat.le_refl _) _).setCell (Nat.le_refl _) _).setCell (Nat.le_refl _) _
end Go.Proofs.YtpheklgnmbpobaaGreatDoor
namespace Go.Proofs.YtpheklgnmbpobaaGreatDoor
open Go.RowKit
open Go.Lib (decDigits nDigits)
set_option linter.unusedVariables false
set_option linter.unusedSimpArgs false
theorem num_limbs {n : Nat} (h : nDigits n ≤ 4000) : (limbs n).length ≤ 1000000 := by
  exact Nat.le_trans (limbs_of_digits h) (by omega)
theorem qmk_le {a b : Nat} (h0 : b ≠ 0) : (qmk false a b).num.natAbs ≤ a ∧ (qmk false a b).den ≤ b := by
  unfold qmk
  constructor
  · rw [Rat.num_mkRat, if_neg h0]
    refine Nat.le_trans (Int.natAbs_ediv_le_natAbs _ _) ?_
    rw [sgn_natAbs]; exact Nat.le_refl _
  · rw [Rat.den_mkRat, if_neg h0]
    exact Nat.div_le_self _ _
set_option maxRecDepth 100000 in
set_option maxHeartbeats 1000000 in
theorem r2_Make_num (w : World) (a b : Nat) (ha : nDigits a ≤ 4000) (hb : nDigits b ≤ 4000) (h0 : b ≠ 0) :
    Calls Tryz.prog 65 #[.string (numB a), .string (numB b)] w fun e w' => e = .returned (.tuple #[.string (outB (qmk false a b)), .int .i64 (outE (qmk false a b))]) ∧ Below w.heap.size w w' := by
  have sa := numB_size a
  have sb := numB_size b
  have e1 : iM (numB a) = false := by
    unfold iM Lib.hasPrefix
    rw [numB_list]
    exact minus_dec a
  have e2 : iD (numB a) = numB a := iD_plain e1
  have e3 : iB (numB a) = true := by
    unfold iB
    rw [e1, e2, fB_num]; rfl
  have HI := fun V => hid (r2_integer V (numB a) (by omega))
  rw [e1, e2, e3] at HI
  have HC := fun V => hid (r1_Check V (numB b) (by omega))
  rw [errN_numB hb] at HC
  have HA := fun V => hid (r1_Read_num V a (by omega))
  have HB := fun V => hid (r1_Read_num V b (by omega))
  have la := num_limbs ha
  have lb := num_limbs hb
  have HR := fun V v u hn hd => hid (r2_Reduce V false v u a b hn hd (by omega) la lb)
  have dq : (limbs (qmk false a b).num.natAbs).length ≤ 1000000 ∧ (limbs (qmk false a b).den).length ≤ 1000000 := by
    obtain ⟨k1, k2⟩ := qmk_le (a := a) h0
    have := nDigits_mono k1
    have := nDigits_mono k2
    exact ⟨num_limbs (by omega), num_limbs (by omega)⟩
  have HW := fun V v h => hid (r2_Write V v (qmk false a b) h dq.1 dq.2)
  have hne := ne_lit (show ¬ numB b = ⟨[48].toArray⟩ from by rw [← numB_zero]; exact numB_ne h0)
  have q0 : decide ((4000 : Int) < ((numB a).size : Int)) = false := by simp; omega
  obtain ⟨oB, hB⟩ : ∃ x, outB (qmk false a b) = x := ⟨_, rfl⟩
  obtain ⟨oE, hE⟩ : ∃ x, outE (qmk false a b) = x := ⟨_, rfl⟩
  rw [hB, hE] at HW
  rw [hB, hE]
  generalize numB a = A at *
  generalize numB b = B at *
  clear e1 e2 e3 hB hE la lb dq sa sb ha hb h0
  go_enter Tryz.func65, Tryz.ntmps65
  go_wp2_with fail
  refine (HI _).out.mono ?_; rintro e w1 ⟨rfl, rfl⟩
  go_wp2_with fail
  refine (HC _).out.mono ?_; rintro e w2 ⟨rfl, rfl⟩
  go_wp2_with fail
  refine (HA _).out.mono ?_; rintro e w3 ⟨⟨v3, rfl, hv3⟩, hb3⟩
  have y3 := hid hb3; have N3 := hid hv3; clear hb3 hv3
  go_wp2_with fail
  refine (HB _).out.mono ?_; rintro e w4 ⟨⟨v4, rfl, hv4⟩, hb4⟩
  have y4 := hid (bnext y3.out hb4); have N4 := hid hv4; have M4 := hid (N3.out.call hb4); clear hb4 hv4
  go_wp2_with fail
  refine (HR _ _ _ M4.out N4.out).out.mono ?_; rintro e w5 ⟨⟨v5, rfl, hv5⟩, hb5⟩
  have y5 := hid (bnext y4.out hb5); have N5 := hid hv5; clear hb5
  obtain ⟨N, D, rfl, -, -⟩ := hv5.ex
  clear hv5
  go_wp2_with fail
  refine (HW _ _ N5.out).out.mono ?_; rintro e w6 ⟨rfl, hb6⟩
  have y6 := hid (bnext y5.out hb6); clear hb6
  go_wp2_with fail
  go_ret2
  exact ⟨rfl, y6.out⟩
end Go.Proofs.YtpheklgnmbpobaaGreatDoor
namespace Go.Proofs.YtpheklgnmbpobaaGreatDoor
open Go.RowKit
open Go.Lib (decDigits nDigits)
set_option linter.unusedVariables false
theorem conv_d0 (w : World) : (convert 21 9 (.int .i32 48)).run Tryz.prog w = .ok (.string ⟨#[48]⟩) w := by kernel_rfl
theorem conv_d1 (w : World) : (convert 21 9 (.int .i32 49)).run Tryz.prog w = .ok (.string ⟨#[49]⟩) w := by kernel_rfl
theorem conv_d2 (w : World) : (convert 21 9 (.int .i32 50)).run Tryz.prog w = .ok (.string ⟨#[50]⟩) w := by kernel_rfl
theorem conv_d3 (w : World) : (convert 21 9 (.int .i32 51)).run Tryz.prog w = .ok (.string ⟨#[51]⟩) w := by kernel_rfl
theorem conv_d4 (w : World) : (convert 21 9 (.int .i32 52)).run Tryz.prog w = .ok (.string ⟨#[52]⟩) w := by kernel_rfl
theorem conv_d5 (w : World) : (convert 21 9 (.int .i32 53)).run Tryz.prog w = .ok (.string ⟨#[53]⟩) w := by kernel_rfl
theorem conv_d6 (w : World) : (convert 21 9 (.int .i32 54)).run Tryz.prog w = .ok (.string ⟨#[54]⟩) w := by kernel_rfl
theorem conv_d7 (w : World) : (convert 21 9 (.int .i32 55)).run Tryz.prog w = .ok (.string ⟨#[55]⟩) w := by kernel_rfl
theorem conv_d8 (w : World) : (convert 21 9 (.int .i32 56)).run Tryz.prog w = .ok (.string ⟨#[56]⟩) w := by kernel_rfl
theorem conv_d9 (w : World) : (convert 21 9 (.int .i32 57)).run Tryz.prog w = .ok (.string ⟨#[57]⟩) w := by kernel_rfl
theorem conv_digit (d : Nat) (h : d < 10) (w : World) : (convert 21 9 (.int .i32 (((48 + d : Nat)) : Int))).run Tryz.prog w = .ok (.string ⟨[UInt8.ofNat (48 + d)].toArray⟩) w := by
  obtain rfl | rfl | rfl | rfl | rfl | rfl | rfl | rfl | rfl | rfl : d = 0 ∨ d = 1 ∨ d = 2 ∨ d = 3 ∨ d = 4 ∨ d = 5 ∨ d = 6 ∨ d = 7 ∨ d = 8 ∨ d = 9 := by omega
  · exact conv_d0 w
  · exact conv_d1 w
  · exact conv_d2 w
  · exact conv_d3 w
  · exact conv_d4 w
  · exact conv_d5 w
  · exact conv_d6 w
  · exact conv_d7 w
  · exact conv_d8 w
  · exact conv_d9 w
set_option maxHeartbeats 1000000 in
theorem r1_FromInt (w : World) (n : Nat) (h : n ≤ 9223372036854775807) : Calls Tryz.prog 42 #[.int .i64 n] w fun e w' => e = .returned (.tuple #[numV n, .int .i64 0]) ∧ w = w' := by
  have hd20 := hid (show nDigits n ≤ 19 from nDigits_le (by omega) (by omega))
  go_enter Tryz.func42, Tryz.ntmps42
  go_wp2_with fail
  go_loop [0, 4] (fun nn ss => ∃ (m : Nat) (l : List UInt8), nn = .int .i64 m ∧ m ≤ 9223372036854775807 ∧ ss = .string ⟨l.toArray⟩ ∧ l.length ≤ 19 ∧ Hid (decDigits n = decDigits m ++ l)) (fun nn _ => (intOf nn).toNat)
  case atStart => exact ⟨n, [], rfl, h, rfl, by simp, by simp [Hid]⟩
  case round =>
    obtain ⟨m, l, rfl, hm, rfl, hl, hd⟩ := hrel
    have hc := conv_digit (m % 10) (by omega)
    have hz : (((48 + m % 10 : Nat)) : Int) = 48 + (m : Int) % 10 := by omega
    rw [hz] at hc
    by_cases h9 : 9 < m
    · have q1 : decide ((9 : Int) < (m : Int)) = true := by simp; omega
      have hdm := hid (decDigits_big (u := m) (by omega))
      have hl19 : l.length + 1 ≤ 19 := by
        have h1 := congrArg List.length hd.out
        rw [List.length_append, Go.Lib.decDigits_length] at h1
        have h2 := hd20.out
        have h3 := dec_length_pos m
        omega
      clear hz
      go_wp2_with fail
      go_round
      case rel => exact ⟨m / 10, UInt8.ofNat (48 + m % 10) :: l, by go_num, by omega, by simp [Go.ByteArray.mk_append_mk], by simpa using hl19, by rw [Hid, hd.out, hdm.out]; simp⟩
      case measure => simp [intOf] <;> omega
    · have q1 : decide ((9 : Int) < (m : Int)) = false := by simp; omega
      have hm9 : m < 10 := by omega
      have hdm := hid (decDigits_small hm9)
      have hmm : m % 10 = m := Nat.mod_eq_of_lt hm9
      rw [hmm] at hc
      have hmI : (48 + (m : Int) % 10) = 48 + (m : Int) := by omega
      rw [hmI] at hc
      clear hz hmm hmI h9
      go_wp2_with fail
      go_ret2
      refine ⟨ret_pair ?_ rfl, rfl⟩
      rw [numV, hd.out, hdm.out]
      simp [Go.ByteArray.mk_append_mk]
end Go.Proofs.YtpheklgnmbpobaaGreatDoor
namespace Go.Proofs.YtpheklgnmbpobaaGreatDoor
open Go.RowKit
set_option linter.unusedVariables false
set_option maxHeartbeats 4000000 in
theorem r1_Plus (w : World) (v u : Value) (a b : Nat) (ha : IsN .i64 w v a) (hb : IsN .i64 w u b) (hla : (limbs a).length ≤ 1000000) (hlb : (limbs b).length ≤ 1000000) :
    Calls Tryz.prog 43 #[v, u] w fun e w' => RetN .i64 (a + b) e w' ∧ Below w.heap.size w w' := by
  obtain ⟨i0, hi, hz0, hz1, hz2⟩ := info_parts info_int
  obtain ⟨a1, c1, rfl, h1, h2, h3⟩ := ha.openI
  obtain ⟨a2, c2, rfl, k1, k2, k3⟩ := hb.openI
  have H3 := hid h3; have K3 := hid k3; clear h3 k3 ha hb
  obtain ⟨n, ea⟩ : ∃ n, (limbs a).length = n := ⟨_, rfl⟩
  obtain ⟨m, eb⟩ : ∃ m, (limbs b).length = m := ⟨_, rfl⟩
  rw [ea] at h1 hla ⊢
  rw [eb] at k1 hlb ⊢
  have HA := hid ea; have HB := hid eb
  clear ea eb
  go_enter Tryz.func43, Tryz.ntmps43
  go_wp2_with fail
  go_loopw [5, 6, 7] (fun o cc i wr => ∃ (s : List Nat) (c : Nat) (C : Int), i = .int .i64 s.length ∧ cc = .int .i64 C ∧ C = (c : Int) ∧ c ≤ 1 ∧ s.length ≤ 1000001 ∧ (s.length ≤ n ∨ s.length ≤ m ∨ c = 0) ∧ Hid (PlusI a b s c) ∧ Hid (wr.ownsRow w.heap.size 3 1 o s.length (ints .i64 s)) ∧ Hid (Below w.heap.size w wr))
    (fun _ _ i _ => 1000002 - (intOf i).toNat)
  case atStart => exact ⟨[], 0, 0, rfl, rfl, rfl, by omega, by simp, .inl (by simp), PlusI.start a b, World.ownsRow_nil _ _ _ _, Below.refl _ _⟩
  case round =>
    obtain ⟨s, c, C, rfl, rfl, hC, hc1, hs1, hs2, hP, hO, hB⟩ := hrel
    obtain ⟨ao, co, rfl⟩ := owns_ex hO.out
    by_cases hA : s.length < n
    · obtain ⟨x, hx⟩ : ∃ x, (limbs a)[s.length]? = some x := ⟨_, List.getElem?_eq_getElem (by rw [HA.out]; exact hA)⟩
      obtain ⟨g, og, rfl, hg, hc⟩ := H3.out _ x hx
      have hc' := (hB.out.cell (p := ⟨g, og + s.length, none⟩) hg).trans hc
      have hxl := (sm_limbs a).get hx
      have HX := hid hx; clear hx hc
      by_cases hB' : s.length < m
      · obtain ⟨y, hy⟩ : ∃ y, (limbs b)[s.length]? = some y := ⟨_, List.getElem?_eq_getElem (by rw [HB.out]; exact hB')⟩
        obtain ⟨g', og', rfl, hg', hd⟩ := K3.out _ y hy
        have hd' := (hB.out.cell (p := ⟨g', og' + s.length, none⟩) hg').trans hd
        have hyl := (sm_limbs b).get hy
        have HY := hid hy; clear hy hd
        rcases (show c = 0 ∨ c = 1 by omega) with rfl | rfl
        · obtain rfl : C = 0 := by omega
          clear hC
          have HN := hid (hP.out.next (by rw [HA.out]; exact .inl hA))
          rw [getD_of HX.out, getD_of HY.out] at HN
          go_wp2_with (at_builtin; refine wpList_append_own _ rfl _ _ 69 rfl w.heap.size 3 i0 (.int .i64 0) 1 8 Tryz.underlying69 hi hz0 hz1 hz2 rfl (by decide) _ s.length _ rfl (hO.out.alloc _) ⟨wr.heap.size, 0, none⟩ 1 1 [.int .i64 ((↑x + ↑y : Int) % 1000000000)] rfl rfl (cell_one_new wr (.int .i64 ((↑x + ↑y : Int) % 1000000000)) 3) (by simp [Value.oneCell']) (by unfold maxLen; omega) (by omega) (by have := hB.out.size; simp; omega) ?_; intro v' w3 hown3 hgrow3 _; have HO3 := hid hown3; have HG3 := hid hgrow3; clear hown3 hgrow3)
          have hz : ((↑x + ↑y : Int) % 1000000000) = (((x + 0 + y) % 1000000000 : Nat) : Int) := by omega
          rw [hz] at HO3
          obtain ⟨n1, n2⟩ := own_next hO.out hB.out HO3.out HG3.out
          have N1 := hid n1; have N2 := hid n2; clear n1 n2 hz HO3 HG3
          obtain ⟨a3, k3, rfl⟩ := owns_ex N1.out
          go_wp2_with fail
          go_roundw
          case rel => exact ⟨s ++ [(x + 0 + y) % 1000000000], (x + 0 + y) / 1000000000, _, by simp, rfl, by omega, HN.out.c1, by simp <;> omega, by simp <;> omega, HN, N1, N2⟩
          case measure => simp [intOf] <;> omega
        · obtain rfl : C = 1 := by omega
          clear hC
          have HN := hid (hP.out.next (by rw [HA.out]; exact .inl hA))
          rw [getD_of HX.out, getD_of HY.out] at HN
          go_wp2_with (at_builtin; refine wpList_append_own _ rfl _ _ 69 rfl w.heap.size 3 i0 (.int .i64 0) 1 8 Tryz.underlying69 hi hz0 hz1 hz2 rfl (by decide) _ s.length _ rfl (hO.out.alloc _) ⟨wr.heap.size, 0, none⟩ 1 1 [.int .i64 ((1 + ↑x + ↑y : Int) % 1000000000)] rfl rfl (cell_one_new wr (.int .i64 ((1 + ↑x + ↑y : Int) % 1000000000)) 3) (by simp [Value.oneCell']) (by unfold maxLen; omega) (by omega) (by have := hB.out.size; simp; omega) ?_; intro v' w3 hown3 hgrow3 _; have HO3 := hid hown3; have HG3 := hid hgrow3; clear hown3 hgrow3)
          have hz : ((1 + ↑x + ↑y : Int) % 1000000000) = (((x + 1 + y) % 1000000000 : Nat) : Int) := by omega
          rw [hz] at HO3
          obtain ⟨n1, n2⟩ := own_next hO.out hB.out HO3.out HG3.out
          have N1 := hid n1; have N2 := hid n2; clear n1 n2 hz HO3 HG3
          obtain ⟨a3, k3, rfl⟩ := owns_ex N1.out
          go_wp2_with fail
          go_roundw
          case rel => exact ⟨s ++ [(x + 1 + y) % 1000000000], (x + 1 + y) / 1000000000, _, by simp, rfl, by omega, HN.out.c1, by simp <;> omega, by simp <;> omega, HN, N1, N2⟩
          case measure => simp [intOf] <;> omega
      · skip
        rcases (show c = 0 ∨ c = 1 by omega) with rfl | rfl
        · obtain rfl : C = 0 := by omega
          clear hC
          have HN := hid (hP.out.next (by rw [HA.out]; exact .inl hA))
          rw [getD_of HX.out, getD_none (by rw [HB.out]; omega)] at HN
          go_wp2_with (at_builtin; refine wpList_append_own _ rfl _ _ 69 rfl w.heap.size 3 i0 (.int .i64 0) 1 8 Tryz.underlying69 hi hz0 hz1 hz2 rfl (by decide) _ s.length _ rfl (hO.out.alloc _) ⟨wr.heap.size, 0, none⟩ 1 1 [.int .i64 ((↑x : Int) % 1000000000)] rfl rfl (cell_one_new wr (.int .i64 ((↑x : Int) % 1000000000)) 3) (by simp [Value.oneCell']) (by unfold maxLen; omega) (by omega) (by have := hB.out.size; simp; omega) ?_; intro v' w3 hown3 hgrow3 _; have HO3 := hid hown3; have HG3 := hid hgrow3; clear hown3 hgrow3)
          have hz : ((↑x : Int) % 1000000000) = (((x + 0 + 0) % 1000000000 : Nat) : Int) := by omega
          rw [hz] at HO3
          obtain ⟨n1, n2⟩ := own_next hO.out hB.out HO3.out HG3.out
          have N1 := hid n1; have N2 := hid n2; clear n1 n2 hz HO3 HG3
          obtain ⟨a3, k3, rfl⟩ := owns_ex N1.out
          go_wp2_with fail
          go_roundw
          case rel => exact ⟨s ++ [(x + 0 + 0) % 1000000000], (x + 0 + 0) / 1000000000, _, by simp, rfl, by omega, HN.out.c1, by simp <;> omega, by simp <;> omega, HN, N1, N2⟩
          case measure => simp [intOf] <;> omega
        · obtain rfl : C = 1 := by omega
          clear hC
          have HN := hid (hP.out.next (by rw [HA.out]; exact .inl hA))
          rw [getD_of HX.out, getD_none (by rw [HB.out]; omega)] at HN
          go_wp2_with (at_builtin; refine wpList_append_own _ rfl _ _ 69 rfl w.heap.size 3 i0 (.int .i64 0) 1 8 Tryz.underlying69 hi hz0 hz1 hz2 rfl (by decide) _ s.length _ rfl (hO.out.alloc _) ⟨wr.heap.size, 0, none⟩ 1 1 [.int .i64 ((1 + ↑x : Int) % 1000000000)] rfl rfl (cell_one_new wr (.int .i64 ((1 + ↑x : Int) % 1000000000)) 3) (by simp [Value.oneCell']) (by unfold maxLen; omega) (by omega) (by have := hB.out.size; simp; omega) ?_; intro v' w3 hown3 hgrow3 _; have HO3 := hid hown3; have HG3 := hid hgrow3; clear hown3 hgrow3)
          have hz : ((1 + ↑x : Int) % 1000000000) = (((x + 1 + 0) % 1000000000 : Nat) : Int) := by omega
          rw [hz] at HO3
          obtain ⟨n1, n2⟩ := own_next hO.out hB.out HO3.out HG3.out
          have N1 := hid n1; have N2 := hid n2; clear n1 n2 hz HO3 HG3
          obtain ⟨a3, k3, rfl⟩ := owns_ex N1.out
          go_wp2_with fail
          go_roundw
          case rel => exact ⟨s ++ [(x + 1 + 0) % 1000000000], (x + 1 + 0) / 1000000000, _, by simp, rfl, by omega, HN.out.c1, by simp <;> omega, by simp <;> omega, HN, N1, N2⟩
          case measure => simp [intOf] <;> omega
    · skip
      by_cases hB' : s.length < m
      · obtain ⟨y, hy⟩ : ∃ y, (limbs b)[s.length]? = some y := ⟨_, List.getElem?_eq_getElem (by rw [HB.out]; exact hB')⟩
        obtain ⟨g', og', rfl, hg', hd⟩ := K3.out _ y hy
        have hd' := (hB.out.cell (p := ⟨g', og' + s.length, none⟩) hg').trans hd
        have hyl := (sm_limbs b).get hy
        have HY := hid hy; clear hy hd
        rcases (show c = 0 ∨ c = 1 by omega) with rfl | rfl
        · obtain rfl : C = 0 := by omega
          clear hC
          have HN := hid (hP.out.next (by rw [HB.out]; exact .inr (.inl hB')))
          rw [getD_none (by rw [HA.out]; omega), getD_of HY.out] at HN
          go_wp2_with (at_builtin; refine wpList_append_own _ rfl _ _ 69 rfl w.heap.size 3 i0 (.int .i64 0) 1 8 Tryz.underlying69 hi hz0 hz1 hz2 rfl (by decide) _ s.length _ rfl (hO.out.alloc _) ⟨wr.heap.size, 0, none⟩ 1 1 [.int .i64 ((↑y : Int) % 1000000000)] rfl rfl (cell_one_new wr (.int .i64 ((↑y : Int) % 1000000000)) 3) (by simp [Value.oneCell']) (by unfold maxLen; omega) (by omega) (by have := hB.out.size; simp; omega) ?_; intro v' w3 hown3 hgrow3 _; have HO3 := hid hown3; have HG3 := hid hgrow3; clear hown3 hgrow3)
          have hz : ((↑y : Int) % 1000000000) = (((0 + 0 + y) % 1000000000 : Nat) : Int) := by omega
          rw [hz] at HO3
          obtain ⟨n1, n2⟩ := own_next hO.out hB.out HO3.out HG3.out
          have N1 := hid n1; have N2 := hid n2; clear n1 n2 hz HO3 HG3
          obtain ⟨a3, k3, rfl⟩ := owns_ex N1.out
          go_wp2_with fail
          go_roundw
          case rel => exact ⟨s ++ [(0 + 0 + y) % 1000000000], (0 + 0 + y) / 1000000000, _, by simp, rfl, by omega, HN.out.c1, by simp <;> omega, by simp <;> omega, HN, N1, N2⟩
          case measure => simp [intOf] <;> omega
        · obtain rfl : C = 1 := by omega
          clear hC
          have HN := hid (hP.out.next (by rw [HB.out]; exact .inr (.inl hB')))
          rw [getD_none (by rw [HA.out]; omega), getD_of HY.out] at HN
          go_wp2_with (at_builtin; refine wpList_append_own _ rfl _ _ 69 rfl w.heap.size 3 i0 (.int .i64 0) 1 8 Tryz.underlying69 hi hz0 hz1 hz2 rfl (by decide) _ s.length _ rfl (hO.out.alloc _) ⟨wr.heap.size, 0, none⟩ 1 1 [.int .i64 ((1 + ↑y : Int) % 1000000000)] rfl rfl (cell_one_new wr (.int .i64 ((1 + ↑y : Int) % 1000000000)) 3) (by simp [Value.oneCell']) (by unfold maxLen; omega) (by omega) (by have := hB.out.size; simp; omega) ?_; intro v' w3 hown3 hgrow3 _; have HO3 := hid hown3; have HG3 := hid hgrow3; clear hown3 hgrow3)
          have hz : ((1 + ↑y : Int) % 1000000000) = (((0 + 1 + y) % 1000000000 : Nat) : Int) := by omega
          rw [hz] at HO3
          obtain ⟨n1, n2⟩ := own_next hO.out hB.out HO3.out HG3.out
          have N1 := hid n1; have N2 := hid n2; clear n1 n2 hz HO3 HG3
          obtain ⟨a3, k3, rfl⟩ := owns_ex N1.out
          go_wp2_with fail
          go_roundw
          case rel => exact ⟨s ++ [(0 + 1 + y) % 1000000000], (0 + 1 + y) / 1000000000, _, by simp, rfl, by omega, HN.out.c1, by simp <;> omega, by simp <;> omega, HN, N1, N2⟩
          case measure => simp [intOf] <;> omega
      · skip
        rcases (show c = 0 ∨ c = 1 by omega) with rfl | rfl
        · obtain rfl : C = 0 := by omega
          clear hC
          have hs := hid (hP.out.done (by rw [HA.out]; exact hA) (by rw [HB.out]; exact hB') rfl)
          go_wp2_with fail
          go_ret
          exact ⟨⟨_, rfl, owns_isN hO.out hs.out⟩, hB.out⟩
        · obtain rfl : C = 1 := by omega
          clear hC
          have HN := hid (hP.out.next (by exact .inr (.inr (by omega))))
          rw [getD_none (by rw [HA.out]; omega), getD_none (by rw [HB.out]; omega)] at HN
          go_wp2_with (at_builtin; refine wpList_append_own _ rfl _ _ 69 rfl w.heap.size 3 i0 (.int .i64 0) 1 8 Tryz.underlying69 hi hz0 hz1 hz2 rfl (by decide) _ s.length _ rfl (hO.out.alloc _) ⟨wr.heap.size, 0, none⟩ 1 1 [.int .i64 (1)] rfl rfl (cell_one_new wr (.int .i64 (1)) 3) (by simp [Value.oneCell']) (by unfold maxLen; omega) (by omega) (by have := hB.out.size; simp; omega) ?_; intro v' w3 hown3 hgrow3 _; have HO3 := hid hown3; have HG3 := hid hgrow3; clear hown3 hgrow3)
          have hz : (1) = (((0 + 1 + 0) % 1000000000 : Nat) : Int) := by omega
          rw [hz] at HO3
          obtain ⟨n1, n2⟩ := own_next hO.out hB.out HO3.out HG3.out
          have N1 := hid n1; have N2 := hid n2; clear n1 n2 hz HO3 HG3
          obtain ⟨a3, k3, rfl⟩ := owns_ex N1.out
          go_wp2_with fail
          go_roundw
          case rel => exact ⟨s ++ [(0 + 1 + 0) % 1000000000], (0 + 1 + 0) / 1000000000, _, by simp, rfl, by omega, HN.out.c1, by simp <;> omega, by simp <;> omega, HN, N1, N2⟩
          case measure => simp [intOf] <;> omega
end Go.Proofs.YtpheklgnmbpobaaGreatDoor
namespace Go.Proofs.YtpheklgnmbpobaaGreatDoor
open Go.RowKit
open Go.Lib (decDigits nDigits)
set_option linter.unusedVariables false
set_option linter.unusedSimpArgs false
theorem r2_Int (w : World) (n : Nat) (h : n ≤ 9223372036854775807) : Calls Tryz.prog 16 #[.int .i64 n] w fun e w' => e = .returned (.string (numB n)) ∧ w = w' := by
  have q0 : decide ((0 : Int) ≤ (n : Int)) = true := by simp
  go_enter Tryz.func16, Tryz.ntmps16
  go_wp2_with fail
  refine (r1_FromInt _ n h).mono ?_; rintro e w1 ⟨rfl, rfl⟩
  rw [numV_eq]
  go_wp2_with fail
  go_ret
  exact ⟨rfl, rfl⟩
theorem r3_small (w : World) (n : Nat) (h : n ≤ 9223372036854775807) : Calls Tryz.prog 152 #[.int .i64 n] w fun e w' => RetN .i64 n e w' ∧ Below w.heap.size w w' := by
  have hd := hid (show nDigits n ≤ 9000 from Nat.le_trans (nDigits_le (k := 19) (by omega) (by omega)) (by omega))
  go_enter Tryz.func152, Tryz.ntmps152
  go_wp2_with fail
  refine (r2_Int _ n h).mono ?_; rintro e w1 ⟨rfl, rfl⟩
  go_wp2_with fail
  refine (r1_Read_num _ n hd.out).mono ?_; rintro e w1 ⟨⟨v, rfl, hv⟩, hb⟩
  go_wp2_with fail
  go_ret
  exact ⟨⟨_, rfl, hv⟩, hb⟩
theorem limbs_two {n k : Nat} (h : n < 2 ^ k) : (limbs n).length ≤ k :=
  limbs_length_le.2 (Nat.lt_of_lt_of_le h (Nat.pow_le_pow_left (by omega) k))
def bv (l : List UInt8) : Nat := l.foldl (fun a b => a + a + (if b = 49 then 1 else 0)) 0
theorem bv_snoc (l : List UInt8) (b : UInt8) : bv (l ++ [b]) = bv l + bv l + (if b = 49 then 1 else 0) := by simp [bv]
theorem bv_take {l : List UInt8} {i : Nat} {b : UInt8} (h : l[i]? = some b) : bv (l.take (i + 1)) = bv (l.take i) + bv (l.take i) + (if b = 49 then 1 else 0) := by
  rw [List.take_add_one, h]
  exact bv_snoc _ _
theorem bv_lt {l : List UInt8} : ∀ (i : Nat), i ≤ l.length → bv (l.take i) < 2 ^ i
  | 0, _ => by simp [bv]
  | i + 1, h => by
    have ih := bv_lt (l := l) i (by omega)
    rw [bv_take (l := l) (i := i) (b := l[i]) (List.getElem?_eq_getElem (by omega)), Nat.pow_succ]
    split <;> omega
set_option maxRecDepth 100000 in
set_option maxHeartbeats 1000000 in
theorem r3_Value (w : World) (s : ByteArray) (hs : s.size ≤ 100000) : Calls Tryz.prog 196 #[.string s] w fun e w' => RetN .i64 (bv s.data.toList) e w' ∧ Below w.heap.size w w' := by
  have hsl := hid (show s.data.toList.length = s.size from by simp)
  go_enter Tryz.func196, Tryz.ntmps196
  go_wp2_with fail
  refine (r3_small _ 0 (by omega)).mono ?_; rintro e w1 ⟨⟨v, rfl, hv⟩, hb⟩
  have V := hid hv; have B := hid hb
  clear hv hb
  go_wp2_with fail
  go_loopw [3, 4] (fun o ii wr => ∃ i : Nat, ii = .int .i64 i ∧ i ≤ s.size ∧ Hid (IsN .i64 wr o (bv (s.data.toList.take i))) ∧ Hid (Below w.heap.size w wr)) (fun o ii wr => s.size - (intOf ii).toNat)
  case atStart => exact ⟨0, rfl, Nat.zero_le _, V, B⟩
  case round =>
    obtain ⟨i, rfl, hi, hO, hB⟩ := hrel
    by_cases hlt : i < s.size
    · have hget := byte_get hlt
      have hl := bv_lt (l := s.data.toList) i (by rw [hsl.out]; exact hi)
      have hl2 := bv_lt (l := s.data.toList) (i + 1) (by rw [hsl.out]; exact hlt)
      have hbt := hid (bv_take hget)
      have ll : Hid ((limbs (bv (s.data.toList.take i))).length ≤ 1000000) := Nat.le_trans (limbs_two hl) (by omega)
      have ll2 : Hid ((limbs (bv (s.data.toList.take i) + bv (s.data.toList.take i))).length ≤ 1000000) := by
        refine Nat.le_trans (limbs_two (k := i + 1) ?_) (by omega)
        rw [Nat.pow_succ]; omega
      have l1 : Hid ((limbs 1).length ≤ 1000000) := by show _ ≤ _; rw [limbs_one]; decide
      by_cases hb : s[i] = 49
      · have q1 : ((s[i].toNat : Int) == 49) = true := by rw [hb]; rfl
        rw [if_pos hb] at hbt
        clear hget hl hl2 hb
        go_wp2_with fail
        refine (r1_Plus _ _ _ _ _ hO.out hO.out ll.out ll.out).mono ?_; rintro e w2 ⟨⟨v2, rfl, hv2⟩, hb2⟩
        have V2 := hid hv2; have B2 := hid (bnext hB.out hb2)
        clear hv2 hb2
        go_wp2_with fail
        refine (r3_small _ 1 (by omega)).mono ?_; rintro e w3 ⟨⟨v3, rfl, hv3⟩, hb3⟩
        have V3 := hid hv3; have B3 := hid (bnext B2.out hb3); have V2' := hid (V2.out.call hb3)
        clear hv3 hb3 V2
        go_wp2_with fail
        refine (r1_Plus _ _ _ _ _ V2'.out V3.out ll2.out l1.out).mono ?_; rintro e w4 ⟨⟨v4, rfl, hv4⟩, hb4⟩
        have V4 := hid hv4; have B4 := hid (bnext B3.out hb4)
        clear hv4 hb4
        go_wp2_with fail
        go_roundw
        case rel => exact ⟨i + 1, by go_num, by omega, V4.out.cast hbt.out.symm, B4⟩
        case measure => simp [intOf] <;> omega
      · have q1 : ((s[i].toNat : Int) == 49) = false := by
          rw [beq_eq_false_iff_ne]
          intro e
          refine hb ?_
          have : s[i].toNat = (49 : UInt8).toNat := by simp; omega
          exact UInt8.toNat_inj.1 this
        rw [if_neg hb] at hbt
        clear hget hl hl2 hb
        go_wp2_with fail
        refine (r1_Plus _ _ _ _ _ hO.out hO.out ll.out ll.out).mono ?_; rintro e w2 ⟨⟨v2, rfl, hv2⟩, hb2⟩
        have V2 := hid hv2; have B2 := hid (bnext hB.out hb2)
        clear hv2 hb2
        go_wp2_with fail
        go_roundw
        case rel => exact ⟨i + 1, by go_num, by omega, V2.out.cast hbt.out.symm, B2⟩
        case measure => simp [intOf] <;> omega
    · obtain rfl : i = s.size := by omega
      go_wp2_with fail
      go_ret
      refine ⟨⟨_, rfl, hO.out.cast ?_⟩, hB.out⟩
      rw [← hsl.out, List.take_length]
set_option maxRecDepth 100000 in
set_option maxHeartbeats 1000000 in
theorem r3_Two (w : World) (n : Nat) (hn : n ≤ 100000) : Calls Tryz.prog 111 #[.int .i64 n] w fun e w' => RetN .i64 (2 ^ n) e w' ∧ Below w.heap.size w w' := by
  go_enter Tryz.func111, Tryz.ntmps111
  go_wp2_with fail
  refine (r3_small _ 1 (by omega)).mono ?_; rintro e w1 ⟨⟨v, rfl, hv⟩, hb⟩
  have V := hid hv; have B := hid hb
  clear hv hb
  go_wp2_with fail
  go_loopw [0, 3] (fun nn o wr => ∃ j : Nat, nn = .int .i64 j ∧ j ≤ n ∧ Hid (IsN .i64 wr o (2 ^ (n - j))) ∧ Hid (Below w.heap.size w wr)) (fun nn o wr => (intOf nn).toNat)
  case atStart => exact ⟨n, rfl, Nat.le_refl _, by rw [Nat.sub_self, Nat.pow_zero]; exact V, B⟩
  case round =>
    obtain ⟨j, rfl, hj, hO, hB⟩ := hrel
    by_cases h0 : 0 < j
    · have q0 : decide ((0 : Int) < (j : Int)) = true := by simp; omega
      have ll : Hid ((limbs (2 ^ (n - j))).length ≤ 1000000) := Nat.le_trans (limbs_two (k := n - j + 1) (Nat.pow_lt_pow_right (by omega) (by omega))) (by omega)
      have hs : Hid (2 ^ (n - j) + 2 ^ (n - j) = 2 ^ (n - (j - 1))) := by
        show _ = _
        rw [show n - (j - 1) = n - j + 1 by omega, Nat.pow_succ]; omega
      go_wp2_with fail
      refine (r1_Plus _ _ _ _ _ hO.out hO.out ll.out ll.out).mono ?_; rintro e w2 ⟨⟨v2, rfl, hv2⟩, hb2⟩
      have V2 := hid hv2; have B2 := hid (bnext hB.out hb2)
      clear hv2 hb2
      go_wp2_with fail
      go_roundw
      case rel => exact ⟨j - 1, by go_num, by omega, V2.out.cast hs.out, B2⟩
      case measure => simp [intOf] <;> omega
    · obtain rfl : j = 0 := by omega
      go_wp2_with fail
      go_ret
      exact ⟨⟨_, rfl, hO.out⟩, hB.out⟩
set_option maxRecDepth 100000 in
set_option maxHeartbeats 1000000 in
theorem r3_Check (w : World) (s : ByteArray) (hs : s.size ≤ 9223372036854775807) : Calls Tryz.prog 12 #[.string s] w fun e w' => e = .returned (.int .i64 (bitE s)) ∧ w = w' := by
  have hsl := hid (show s.data.toList.length = s.size from by simp)
  go_enter Tryz.func12, Tryz.ntmps12
  go_wp2_with fail
  go_loop [3] (fun ii => ∃ i : Nat, ii = .int .i64 i ∧ i ≤ s.size ∧ Hid (∀ (j : Nat) (b : UInt8), j < i → s.data.toList[j]? = some b → b = 48 ∨ b = 49)) (fun ii => s.size - (intOf ii).toNat)
  case atStart => exact ⟨0, rfl, Nat.zero_le _, fun j b hj => absurd hj (by omega)⟩
  case round =>
    obtain ⟨i, rfl, hi, hI⟩ := hrel
    by_cases hlt : i < s.size
    · have hb := hid (byte_get hlt)
      have ne : ∀ k : UInt8, s[i] ≠ k → ((s[i].toNat : Int) != (k.toNat : Int)) = true := fun k h => by
        rw [bne_iff_ne]
        intro e
        exact h (UInt8.toNat_inj.1 (by omega))
      by_cases c1 : s[i] = 48
      · have q1 : ((s[i].toNat : Int) != 48) = false := by rw [c1]; rfl
        have hB := hid c1
        clear c1 ne
        go_wp2_with fail
        go_round
        case rel => exact ⟨i + 1, by go_num, by omega, fun j b hj hjb => by
          by_cases e : j = i
          · subst e; rw [hb.out] at hjb; cases hjb; exact .inl hB.out
          · exact hI.out j b (by omega) hjb⟩
        case measure => simp [intOf] <;> omega
      · have q1 : ((s[i].toNat : Int) != 48) = true := ne 48 c1
        by_cases c2 : s[i] = 49
        · have q2 : ((s[i].toNat : Int) != 49) = false := by rw [c2]; rfl
          have hB := hid c2
          clear c1 c2 ne
          go_wp2_with fail
          go_round
          case rel => exact ⟨i + 1, by go_num, by omega, fun j b hj hjb => by
            by_cases e : j = i
            · subst e; rw [hb.out] at hjb; cases hjb; exact .inr hB.out
            · exact hI.out j b (by omega) hjb⟩
          case measure => simp [intOf] <;> omega
        · have q2 : ((s[i].toNat : Int) != 49) = true := ne 49 c2
          have hB := hid (And.intro c1 c2)
          clear c1 c2 ne
          go_wp2_with fail
          go_ret
          refine ⟨ret_int ?_, rfl⟩
          have : bitB s = false := by
            unfold bitB
            rw [Bool.eq_false_iff]
            intro h
            rw [List.all_eq_true] at h
            have := h _ (List.mem_of_getElem? hb.out)
            simp [hB.out.1, hB.out.2] at this
          unfold bitE
          rw [this]
          rfl
    · have e1 : i = s.size := by omega
      subst e1
      go_wp2_with fail
      go_ret
      refine ⟨ret_int ?_, rfl⟩
      have : bitB s = true := by
        unfold bitB
        rw [List.all_eq_true]
        intro b hb
        obtain ⟨j, hj, rfl⟩ := List.getElem_of_mem hb
        have := hI.out j _ (by rw [← hsl.out]; exact hj) (List.getElem?_eq_getElem hj)
        simpa using this
      unfold bitE
      rw [this]
      rfl
end Go.Proofs.YtpheklgnmbpobaaGreatDoor
namespace Go.Proofs.YtpheklgnmbpobaaGreatDoor
open Go.RowKit Go.Shelf
open Go.Lib (decDigits nDigits)
set_option linter.unusedVariables false
set_option linter.unusedSimpArgs false
theorem info_bits : (Tryz.prog.info? 23).map (fun i => (i.zero, i.size, i.bytes)) = some (some (.string ⟨#[]⟩), 1, 16) := by kernel_rfl
def tb (l : List UInt8) : ByteArray := ⟨l.toArray⟩
theorem tb_size (l : List UInt8) : (tb l).size = l.length := by simp [tb, ByteArray.size]
theorem tb_snoc (l : List UInt8) (b : UInt8) : tb l ++ (⟨#[b]⟩ : ByteArray) = tb (l ++ [b]) := by
  apply ba_ext
  simp [tb]
def nextW (L : List (List UInt8)) : List (List UInt8) := L.flatMap fun l => [l ++ [48], l ++ [49]]
theorem nextW_snoc (L : List (List UInt8)) (l : List UInt8) : nextW (L ++ [l]) = nextW L ++ [l ++ [48], l ++ [49]] := by simp [nextW]
set_option maxRecDepth 100000 in
set_option maxHeartbeats 4000000 in
theorem r3_All (w : World) (n : Nat) (hn : n ≤ 12) :
    Calls Tryz.prog 23 #[.int .i64 (n : Nat)] w fun e w' => (∃ v, e = .returned (.tuple #[v, .int .i64 0]) ∧ Row w' v (strs ((allW n).map tb))) ∧ Below w.heap.size w w' := by
  obtain ⟨i0, hi, hz0, hz1, hz2⟩ := info_parts info_bits
  have t1 : decide ((n : Int) < 0) = false := by simp
  have t2 : decide ((12 : Int) < (n : Int)) = false := by simp; omega
  have R0 : Row (w.alloc (.cells #[.string ⟨#[]⟩] 23)) (.slice (some ⟨w.heap.size, 0, none⟩) 1 1) (strs ((allW 0).map tb)) :=
    Row.of_blk (n := 1) (Blk.new w _ _) rfl (by decide) (fun i x h => by
      rcases i with _ | i
      · simp [allW, strs, tb] at h ⊢; exact h
      · simp [allW, strs, tb] at h) (Nat.le_refl 1) (by decide)
  have HR0 := hid R0
  have B0 := hid ((Below.refl w.heap.size w).alloc (Nat.le_refl _) (.cells #[.string ⟨#[]⟩] 23))
  clear R0
  go_enter Tryz.func23, Tryz.ntmps23
  go_wp2_with fail
  go_loopw [0, 4] (fun s0 s4 wr => ∃ j : Nat, j ≤ n ∧ s0 = .int .i64 ((n - j : Nat) : Int) ∧ Hid (Row wr s4 (strs ((allW j).map tb))) ∧ Hid (Below w.heap.size w wr)) (fun s0 s4 wr => (intOf s0).toNat)
  case atStart => exact ⟨0, Nat.zero_le _, rfl, HR0, B0⟩
  case round =>
    obtain ⟨j, hj, rfl, hR, hB⟩ := hrel
    by_cases hlt : j < n
    · have q1 : decide (0 < n - j) = true := by simp; omega
      have hp : 2 ^ j ≤ 4096 := Nat.le_trans (Nat.pow_le_pow_right (by omega) (show j ≤ 12 by omega)) (by decide)
      have hlen : ((allW j).map tb).length = 2 ^ j := by rw [List.length_map, allW_length]
      obtain ⟨m, hm⟩ : ∃ m, 2 ^ j = m := ⟨_, rfl⟩
      rw [hm] at hp hlen
      obtain ⟨a, c, rfl, c1, c2, -⟩ := hR.out.openS
      rw [hlen] at hR c1 ⊢
      have HLN := hid hlen
      have q2 : (0 : Int) < ((n - j : Nat) : Int) := by omega
      have wn : IntKind.i64.wrap (((n - j : Nat) : Int) - 1) = ((n - (j + 1) : Nat) : Int) := by rw [IntWalk.i64_in _ ⟨by omega, by omega⟩]; omega
      have HWN := hid wn
      obtain ⟨wo, hwo⟩ : ∃ wo : World, wo = wr := ⟨_, rfl⟩
      subst hwo
      have HBO := hid hB.out.size
      clear hlen hm wn
      go_wp2_with fail
      clear q1
      go_loopw [5, 6] (fun s5 s6 wr => ∃ i : Nat, i ≤ m ∧ s6 = .int .i64 (i : Nat) ∧ Hid (wr.ownsRow wo.heap.size 23 1 s5 (2 * i) (strs ((nextW ((allW j).take i)).map tb))) ∧ Hid (Below wo.heap.size wo wr)) (fun s5 s6 wr => m - (intOf s6).toNat)
      case atStart => exact ⟨0, Nat.zero_le _, rfl, ⟨rfl, .inl ⟨rfl, rfl⟩⟩, Below.refl _ _⟩
      case round =>
        obtain ⟨i, hi2, rfl, hO, hB2⟩ := hrel
        by_cases hlt2 : i < m
        · obtain ⟨l, hl⟩ : ∃ l, (allW j)[i]? = some l := ⟨_, List.getElem?_eq_getElem (by have := HLN.out; rw [List.length_map] at this; omega)⟩
          have hll := allW_len (List.mem_of_getElem? hl)
          obtain ⟨g, o, rfl, hg, hc⟩ := hR.out.at (strs_get (show ((allW j).map tb)[i]? = some (tb l) by rw [List.getElem?_map, hl]; rfl))
          have hc2 := (hB2.out.cell (p := ⟨g, o + i, none⟩) hg).trans hc
          have hsz : ¬ 9223372036854775807 < (tb l).size + 1 := by rw [tb_size]; omega
          have HX : Hid ((allW j).take (i + 1) = (allW j).take i ++ [l]) := by show (allW j).take (i + 1) = _; rw [List.take_add_one, hl]; rfl
          have b1 : (0 : Int) ≤ (i : Int) := by omega
          have b2 : (i : Int) < (m : Int) := by omega
          have wi : IntKind.i64.wrap ((i : Int) + 1) = ((i + 1 : Nat) : Int) := by rw [IntWalk.i64_in _ ⟨by omega, by omega⟩]; omega
          have e1 := hid (tb_snoc l 48)
          have e2 := hid (tb_snoc l 49)
          have KK : Hid (∀ w', Below wr.heap.size wr w' → w'.cell? ⟨g, o + i, none⟩ = some (.string (tb l))) := fun w' hb => (hb.cell (p := ⟨g, o + i, none⟩) (Nat.lt_of_lt_of_le hg hB2.out.size)).trans hc2
          obtain ⟨X, hX⟩ : ∃ X, tb l = X := ⟨_, rfl⟩
          rw [hX] at hc2 hsz e1 e2 KK
          clear hl hll hc hX
          go_wp2_with fail
          refine held_plain [0, 1, 2, 3, 4, 5, 6, 7, 8, 9, 10] 3 (fun w' => w'.cell? ⟨g, o + i, none⟩ = some (.string X)) (by kernel_rfl) (by kernel_rfl) (by kernel_rfl) (by kernel_rfl) (KK.out _ (Below.refl _ _).drew) ?_
          iterate 11
            refine ⟨_, rfl, ?_⟩
            apply Exists.intro
            refine ⟨.inl ⟨by rfl, ?_⟩, ?_⟩
            · (intro W' hW'; obtain q1 := hW'; go_simp; try (with_reducible rfl))
            (dsimp only [Act.put]; try simp only [List.setIfInBounds_toArray, List.set_cons_zero, List.set_cons_succ])
          refine held_one (i := 11) (by kernel_rfl) (by rfl) (by rfl) ?_
          go_wp2_with fail
          refine ⟨KK.out _ ((Below.refl _ _).drew.alloc (Nat.le_refl _) _), ?_⟩
          refine held_one (i := 12) (by kernel_rfl) (by rfl) (by rfl) ?_
          have cells : ∀ j u, [Value.string (X ++ ⟨#[48]⟩), .string (X ++ ⟨#[49]⟩)][j]? = some u → (wr.alloc (.cells #[.string (X ++ ⟨#[48]⟩), .string (X ++ ⟨#[49]⟩)] 23)).drew.cell? ((⟨wr.heap.size, 0, none⟩ : Addr).add j) = some u := cell_two_new wr _ _ 23
          refine wpList_append_own _ rfl _ _ 52 rfl wo.heap.size 23 i0 (.string ⟨#[]⟩) 1 16 Tryz.underlying52 hi hz0 hz1 hz2 rfl (by decide) _ (2 * i) _ rfl (hO.out.alloc _) ⟨wr.heap.size, 0, none⟩ 2 2 [.string (X ++ ⟨#[48]⟩), .string (X ++ ⟨#[49]⟩)] rfl rfl cells (by simp [Value.oneCell']) (by unfold maxLen; omega) (by omega) (by have := hB2.out.size; simp; omega) ?_
          intro v' w3 hown3 hgrow3 _
          have hO3 := hid (show w3.ownsRow wo.heap.size 23 1 v' (2 * (i + 1)) (strs ((nextW ((allW j).take (i + 1))).map tb)) by
            rw [HX.out, nextW_snoc, List.map_append, strs_append]
            have h2 : strs ([l ++ [48], l ++ [49]].map tb) = [.string (X ++ ⟨#[48]⟩), .string (X ++ ⟨#[49]⟩)] := by
              rw [e1.out, e2.out]; rfl
            rw [h2]
            exact hown3)
          have hB3 : Hid (Below wo.heap.size wo w3) := by
            refine ((hB2.out.alloc hB2.out.size _).drew).trans ⟨hgrow3.os, hgrow3.tape, hgrow3.output, hgrow3.size, fun k hk => hgrow3.block k (by have := hB2.out.size; simp; omega) (fun e => ?_)⟩
            have := (hO.out.lt k e.symm).1
            omega
          have m0 : w3.cell? ⟨g, o + i, none⟩ = some (.string X) := (hB3.out.cell (p := ⟨g, o + i, none⟩) hg).trans ((hB2.out.cell (p := ⟨g, o + i, none⟩) hg).symm.trans hc2)
          clear hown3 hgrow3 cells
          go_wp2_with fail
          refine ⟨m0, ?_⟩
          refine held_more (is := [13]) (g := 0) (by kernel_rfl) rfl m0 (by kernel_rfl) ?_
          iterate 1
            refine ⟨_, rfl, ?_⟩
            apply Exists.intro
            refine ⟨.inl ⟨by rfl, ?_⟩, ?_⟩
            · (intro W' hW'; obtain q1 := hW'; go_simp; try (with_reducible rfl))
            (dsimp only [Act.put]; try simp only [List.setIfInBounds_toArray, List.set_cons_zero, List.set_cons_succ])
          refine wpAnyH_done (by kernel_rfl) ?_ _
          simp only [Only]
          go_wp2_with fail
          go_roundw
          case rel => exact ⟨i + 1, by omega, by go_num, hO3, hB3⟩
          case measure => simp [intOf] <;> omega
        · obtain rfl : i = m := by omega
          have q1 : decide ((i : Int) < (i : Int)) = false := by simp
          have h := hO.out
          rw [List.take_of_length_le (by have := HLN.out; rw [List.length_map] at this; omega)] at h
          have hrow := hid (show Row _ _ (strs ((allW (j + 1)).map tb)) from Row.of_owns h)
          have hB3 := hid (hB.out.trans (hB2.out.mono HBO.out))
          have wn := HWN.out
          clear hlt2 h
          go_wp2_with fail
          go_roundw
          case rel => exact ⟨j + 1, by omega, rfl, hrow, hB3⟩
          case measure => simp [intOf] <;> omega
    · obtain rfl : j = n := by omega
      have q1 : decide (((j - j : Nat) : Int) > 0) = false := by simp
      have q2 : ((j - j : Nat) : Int) = 0 := by simp
      obtain ⟨a, c, rfl, -⟩ := hR.out.openS
      clear hlt
      go_wp2_with fail
      go_ret2
      exact ⟨⟨_, rfl, hR.out⟩, hB.out⟩
end Go.Proofs.YtpheklgnmbpobaaGreatDoor
namespace Go.Proofs.YtpheklgnmbpobaaGreatDoor
open Go.RowKit Go.Maps
open Go.Lib (decDigits nDigits)
set_option linter.unusedVariables false
def cntL (f : Nat → Nat → Nat × Bool) (N : Nat) (W : List (List UInt8)) : List Nat := (List.range N).map fun i => W.countP (drawsI f i)
theorem cntL_len (f : Nat → Nat → Nat × Bool) (N : Nat) (W : List (List UInt8)) : (cntL f N W).length = N := by simp [cntL]
theorem cntL_nil (f : Nat → Nat → Nat × Bool) (N : Nat) : cntL f N [] = List.replicate N 0 := by
  unfold cntL
  apply List.ext_getElem?
  intro i
  by_cases h : i < N <;> simp [h]
theorem cntL_get {f : Nat → Nat → Nat × Bool} {N : Nat} {W : List (List UInt8)} {i : Nat} (h : i < N) : (cntL f N W)[i]? = some (W.countP (drawsI f i)) := by
  unfold cntL
  simp [h]
theorem cntL_done {f : Nat → Nat → Nat × Bool} {N : Nat} {W : List (List UInt8)} {l : List UInt8} {v u : Nat} (h : pdr f 0 1 l = (true, v, u)) (hv : v < N) : cntL f N (W ++ [l]) = (cntL f N W).set v (W.countP (drawsI f v) + 1) := by
  apply List.ext_getElem?
  intro i
  by_cases hi : i < N
  · rw [cntL_get hi, List.countP_append]
    by_cases e : i = v
    · subst e
      rw [List.getElem?_set_self (by rw [cntL_len]; exact hi)]
      simp [drawsI, h]
    · rw [List.getElem?_set_ne (fun h => e h.symm), cntL_get hi]
      have : drawsI f i l = false := by simp [drawsI, h]; exact fun h => e h.symm
      simp [this]
  · rw [List.getElem?_eq_none (by rw [cntL_len]; omega), List.getElem?_eq_none (by rw [List.length_set, cntL_len]; omega)]
theorem cntL_late {f : Nat → Nat → Nat × Bool} {N : Nat} {W : List (List UInt8)} {l : List UInt8} (h : (pdr f 0 1 l).1 = false) : cntL f N (W ++ [l]) = cntL f N W := by
  apply List.ext_getElem?
  intro i
  by_cases hi : i < N
  · rw [cntL_get hi, cntL_get hi, List.countP_append]
    have : drawsI f i l = false := by simp [drawsI, h]
    simp [this]
  · rw [List.getElem?_eq_none (by rw [cntL_len]; omega), List.getElem?_eq_none (by rw [cntL_len]; omega)]
def noneL (f : Nat → Nat → Nat × Bool) (W : List (List UInt8)) : Nat := W.countP fun l => !(pdr f 0 1 l).1
theorem noneL_done {f : Nat → Nat → Nat × Bool} {W : List (List UInt8)} {l : List UInt8} (h : (pdr f 0 1 l).1 = true) : noneL f (W ++ [l]) = noneL f W := by
  unfold noneL; rw [List.countP_append]; simp [h]
theorem noneL_late {f : Nat → Nat → Nat × Bool} {W : List (List UInt8)} {l : List UInt8} (h : (pdr f 0 1 l).1 = false) : noneL f (W ++ [l]) = noneL f W + 1 := by
  unfold noneL; rw [List.countP_append]; simp [h]
theorem noneL_le (f : Nat → Nat → Nat × Bool) (W : List (List UInt8)) : noneL f W ≤ W.length := List.countP_le_length
theorem cntL_all {ws : List Nat} (hS : 0 < ws.sum) (n : Nat) {i : Nat} (hi : i < ws.length) : (cntL (pkF ws) ws.length (allW n))[i]? = some (cnt ws (2 ^ n) i) := by
  rw [cntL_get hi, pick_count hS n hi]
theorem noneL_all {ws : List Nat} (hS : 0 < ws.sum) (n : Nat) : noneL (pkF ws) (allW n) = 2 ^ n - lwS ws (2 ^ n) ws.length := pick_late hS n
theorem draw_fit {ws : List Nat} (hS : 0 < ws.sum) (l : List UInt8) : ((pdr (pkF ws) 0 1 l).1 = true → (pdr (pkF ws) 0 1 l).2.1 < ws.length) ∧ ((pdr (pkF ws) 0 1 l).1 = false → (pdr (pkF ws) 0 1 l).2.1 = 0) := by
  obtain ⟨h1, h2, h3⟩ := pdr_end (pkF_nest hS) l 0 1 (by omega)
  refine ⟨fun hd => ?_, h3⟩
  rw [h2 hd]
  have e : pkF ws (bvL l 0) (1 * 2 ^ l.length) = ((pkF ws (bvL l 0) (1 * 2 ^ l.length)).1, true) := by rw [← hd, h1]
  exact ((pkF_iff hS).1 e).1
theorem lawL_step (ws : List Nat) (t i : Nat) : (cnt ws t i = 0 → lawL ws t (i + 1) = lawL ws t i) ∧ (cnt ws t i ≠ 0 → lawL ws t (i + 1) = lawL ws t i ++ [(numB i, shB (cnt ws t i) t)]) := by
  unfold cnt
  constructor
  · intro h
    rw [lawL, if_neg (by omega)]
  · intro h
    rw [lawL, if_pos (by omega)]
    rfl
theorem lawP_has {ws : List Nat} {t N i : Nat} (hi : i < N) (h : cnt ws t i ≠ 0) : hasM (sortM (lawP ws t N)) (numB i, shB (cnt ws t i) t) = true := by
  rw [hasM_iff, sortM_mem]
  have : (numB i, shB (cnt ws t i) t) ∈ lawL ws t N := lawL_mem.2 ⟨i, hi, by unfold cnt at h; omega, rfl⟩
  unfold lawP
  split
  · exact this
  · exact List.mem_append_left _ this
theorem lawP_last {ws : List Nat} {t N : Nat} (h : t - lwS ws t N ≠ 0) : hasM (sortM (lawP ws t N)) (lateB, shB (t - lwS ws t N) t) = true ∧ (lawP ws t N).length = (lawL ws t N).length + 1 := by
  refine ⟨?_, ?_⟩
  · rw [hasM_iff, sortM_mem]
    exact lawP_late.1 h
  · rw [lawP, if_neg h]; simp
theorem sortM_strict {L : List (ByteArray × ByteArray)} (nd : (L.map keyL).Nodup) {i : Nat} {p q : ByteArray × ByteArray} (hp : (sortM L)[i]? = some p) (hq : (sortM L)[i + 1]? = some q) : ¬ keyL q ≤ keyL p := by
  intro hle
  have hs := sortM_sorted L
  obtain ⟨h1, rfl⟩ := List.getElem?_eq_some_iff.1 hp
  obtain ⟨h2, rfl⟩ := List.getElem?_eq_some_iff.1 hq
  have h3 := List.pairwise_iff_getElem.1 hs i (i + 1) h1 h2 (by omega)
  simp only [leB, decide_eq_true_eq] at h3
  have e := List.le_antisymm h3 hle
  have nd2 : ((sortM L).map keyL).Nodup := (((List.mergeSort_perm L _).map keyL).nodup_iff).2 nd
  have h4 := List.pairwise_iff_getElem.1 nd2 i (i + 1) (by simpa using h1) (by simpa using h2) (by omega)
  simp only [List.getElem_map] at h4
  exact h4 e
end Go.Proofs.YtpheklgnmbpobaaGreatDoor
namespace Go.Proofs.YtpheklgnmbpobaaGreatDoor
open Go.RowKit Go.Shelf
open Go.Lib (decDigits nDigits)
set_option linter.unusedVariables false
set_option linter.unusedSimpArgs false
theorem b_Weights (w : World) (q : ByteArray) (t : Int) (hq : q.size ≤ 100000) (hL : Lay w) :
    Calls Tryz.prog 11 #[.string q, .int .i64 t] w fun e w' => (∃ u, e = .returned (.tuple #[u, .int .i64 (beE q t)]) ∧ Row w' u (strs (beW q t))) ∧ Below w.heap.size w w' := by
  by_cases h0 : qE q = 0
  · by_cases h1 : cW q = ⟨#[48]⟩ ∨ iM (cW q) = true ∨ bN (qD q) < bN (cW q) ∨ t < 0 ∨ 16 < t
    · exact bw_e2 w q t hq hL h0 h1
    · obtain ⟨m, rfl⟩ : ∃ m : Nat, t = (m : Nat) := ⟨t.toNat, by
        have : ¬ t < 0 := fun h => h1 (.inr (.inr (.inr (.inl h))))
        omega⟩
      exact bw_main w q m hq hL h0 h1
  · exact bw_e1 w q t hq hL h0
set_option maxRecDepth 100000 in
set_option maxHeartbeats 2000000 in
theorem b_Late (w : World) (q : ByteArray) (t n : Int) (hq : q.size ≤ 100000) (hL : Lay w) :
    Calls Tryz.prog 22 #[.string q, .int .i64 t, .int .i64 n] w fun e w' => e = .returned (.tuple #[.string (btR q t n), .int .i64 (blE q t n)]) ∧ Below w.heap.size w w' := by
  have HW := hid (b_Weights w q t hq hL)
  have HL := hid hL
  by_cases h0 : beE q t = 0
  · have P2 := fun V v hV hLV => hid (p_Late V v (beW q t) n hV (fun x hx => beV_size h0 hx) hLV)
    rw [beV_lawE h0] at P2
    have e1 : lateR (beW q t) n = btR q t n := by
      unfold btR
      split
      · rfl
      · rename_i h; unfold lateR; rw [beV_lawE h0, if_neg h]
    rw [e1] at P2
    rw [h0] at HW
    obtain ⟨R, hR⟩ : ∃ R, btR q t n = R := ⟨_, rfl⟩
    obtain ⟨E, hE⟩ : ∃ R, blE q t n = R := ⟨_, rfl⟩
    rw [hR, hE] at P2 ⊢
    clear hL h0 e1 hR hE
    go_enter Tryz.func22, Tryz.ntmps22
    go_wp2_with fail
    refine HW.out.mono ?_; rintro e w1 ⟨⟨u, rfl, hu⟩, hb1⟩
    have y1 := hid hb1
    have U1 := hid hu
    obtain ⟨a, c, rfl, -, -, -⟩ := hu.openS
    clear hb1 hu
    go_wp2_with fail
    refine (P2 _ _ U1.out (HL.out.call y1.out)).out.mono ?_; rintro e w2 ⟨rfl, hb2⟩
    have y2 := hid (bnext y1.out hb2); clear hb2
    go_wp2_with fail
    go_ret2
    exact ⟨rfl, y2.out⟩
  · have e1 : blE q t n = beE q t := by unfold blE; rw [if_pos h0]
    have e2 : btR q t n = ⟨#[]⟩ := by unfold btR; rw [e1, if_neg h0]
    rw [e1, e2]
    obtain ⟨z, hz⟩ : ∃ z, beE q t = z := ⟨_, rfl⟩
    rw [hz] at HW h0 ⊢
    have q0 : (z != 0) = true := by simpa using h0
    clear hL h0 e1 e2 hz
    go_enter Tryz.func22, Tryz.ntmps22
    go_wp2_with fail
    refine HW.out.mono ?_; rintro e w1 ⟨⟨u, rfl, hu⟩, hb1⟩
    have y1 := hid hb1
    obtain ⟨a, c, rfl, -, -, -⟩ := hu.openS
    clear hb1 hu
    go_wp2_with fail
    go_ret2
    exact ⟨rfl, y1.out⟩
set_option maxRecDepth 100000 in
set_option maxHeartbeats 4000000 in
theorem b_Draw (w : World) (q : ByteArray) (t : Int) (b : ByteArray) (hq : q.size ≤ 100000) (hb : b.size ≤ 100000000) (hL : Lay w) :
    Calls Tryz.prog 10 #[.string q, .int .i64 t, .string b] w fun e w' => e = .returned (.tuple #[bV (bd3 q t b), .int .i64 (bdE q t b)]) ∧ Below w.heap.size w w' := by
  have A0 := hid ((Below.refl w.heap.size w).alloc (Nat.le_refl _) (.cells #[.bool false, .int .i64 0, .int .i64 0] 33))
  have x0 := hid (Blk.new w #[.bool false, .int .i64 0, .int .i64 0] 33)
  have HW := fun V hV => hid (b_Weights V q t hq hV)
  have HL := hid hL
  by_cases h0 : beE q t = 0
  · have PD := fun V v hV hLV => hid (p_Draw V v (beW q t) b hV (fun x hx => beV_size h0 hx) hb hLV)
    have e1 := beV_drE h0 b
    have e2 := beV_dr3 h0 b
    rw [e1.1, ← e1.2] at PD
    have hfit : (dr3 (beW q t) b).1 = true → (dr3 (beW q t) b).2.1 < 100 := fun hd => by
      unfold dr3 at hd ⊢
      split at hd
      · rename_i hz
        rw [if_pos hz]
        have hS := wsE_pos (beV_wsE h0)
        obtain ⟨m, -, hm, -, hl⟩ := beV_len h0
        have := (draw_fit hS b.data.toList).1 hd
        rw [List.length_map, hl] at this
        omega
      · cases hd
    obtain ⟨m, rfl, hm16, -, -⟩ := beV_len h0
    rw [h0] at HW
    obtain ⟨X, hX⟩ : ∃ X, dr3 (beW q m) b = X := ⟨_, rfl⟩
    rw [hX] at PD e2 hfit
    rw [← e2]
    obtain ⟨E, hE⟩ : ∃ X, bdE q m b = X := ⟨_, rfl⟩
    rw [hE] at PD ⊢
    obtain ⟨d, vv, uu⟩ := X
    simp only [dw3] at PD
    dsimp only at hfit
    unfold bsh bV
    dsimp only
    clear hL h0 e1 e2 hX hE hb
    cases d
    · clear hfit
      go_enter Tryz.func10, Tryz.ntmps10
      go_wp2_with fail
      refine (HW _ (HL.out.call A0.out)).out.mono ?_; rintro e w1 ⟨⟨u, rfl, hu⟩, hb1⟩
      have y1 := hid (bnext A0.out hb1)
      have k1 := hid (x0.out.call hb1)
      have U1 := hid hu
      obtain ⟨a, c, rfl, -, -, -⟩ := hu.openS
      clear hb1 hu
      go_wp2_with fail
      refine (PD _ _ U1.out (HL.out.call y1.out)).out.mono ?_; rintro e w2 ⟨rfl, hb2⟩
      have y2 := hid (bnext y1.out hb2)
      have k2 := hid (k1.out.call hb2)
      clear hb2
      have K3 := hid (k2.out.alloc (.cells #[.bool false, .int .i64 (vv : Nat), .int .i64 (uu : Nat)] 33))
      have Y3 := hid (y2.out.alloc y2.out.size (.cells #[.bool false, .int .i64 (vv : Nat), .int .i64 (uu : Nat)] 33))
      have r0 := K3.out.cell 0
      have r1 := K3.out.cell 1
      have r2 := K3.out.cell 2
      have f0 := K3.out.free 0
      have f1 := K3.out.free 1
      have f2 := K3.out.free 2
      simp at r0 r1 r2
      go_wp2_with fail
      have s3 := ((K3.out.set 0 (.bool false)).set 1 (.int .i64 (vv : Nat))).set 2 (.int .i64 (uu : Nat))
      have z0 := s3.cell 0
      have z1 := s3.cell 1
      have z2 := s3.cell 2
      simp at z0 z1 z2
      refine bodyPost_ret (v := .tuple #[.agg #[.bool false, .int .i64 (vv : Nat), .int .i64 (uu : Nat)], .int .i64 E]) (by simp [results, Tryz.results10, go_sem, z0, z1, z2]) rfl ⟨by simp, ?_⟩
      exact ((Y3.out.setCell (Nat.le_refl _) _).setCell (Nat.le_refl _) _).setCell (Nat.le_refl _) _
    · have hv := hfit rfl
      have wv : IntKind.i64.wrap ((vv : Int) - (m : Int)) = (vv : Int) - (m : Int) := by rw [IntWalk.i64_in _ ⟨by omega, by omega⟩]
      clear hfit hv
      go_enter Tryz.func10, Tryz.ntmps10
      go_wp2_with fail
      refine (HW _ (HL.out.call A0.out)).out.mono ?_; rintro e w1 ⟨⟨u, rfl, hu⟩, hb1⟩
      have y1 := hid (bnext A0.out hb1)
      have k1 := hid (x0.out.call hb1)
      have U1 := hid hu
      obtain ⟨a, c, rfl, -, -, -⟩ := hu.openS
      clear hb1 hu
      go_wp2_with fail
      refine (PD _ _ U1.out (HL.out.call y1.out)).out.mono ?_; rintro e w2 ⟨rfl, hb2⟩
      have y2 := hid (bnext y1.out hb2)
      have k2 := hid (k1.out.call hb2)
      clear hb2
      have K4 := hid (k2.out.alloc (.cells #[.bool true, .int .i64 ((vv : Int) - (m : Int)), .int .i64 (uu : Nat)] 33))
      have Y4 := hid (y2.out.alloc y2.out.size (.cells #[.bool true, .int .i64 ((vv : Int) - (m : Int)), .int .i64 (uu : Nat)] 33))
      have r0 := K4.out.cell 0
      have r1 := K4.out.cell 1
      have r2 := K4.out.cell 2
      have f0 := K4.out.free 0
      have f1 := K4.out.free 1
      have f2 := K4.out.free 2
      simp at r0 r1 r2
      go_wp2_with fail
      have s3 := ((K4.out.set 0 (.bool true)).set 1 (.int .i64 ((vv : Int) - (m : Int)))).set 2 (.int .i64 (uu : Nat))
      have z0 := s3.cell 0
      have z1 := s3.cell 1
      have z2 := s3.cell 2
      simp at z0 z1 z2
      refine bodyPost_ret (v := .tuple #[.agg #[.bool true, .int .i64 ((vv : Int) - (m : Int)), .int .i64 (uu : Nat)], .int .i64 E]) (by simp [results, Tryz.results10, go_sem, z0, z1, z2]) rfl ⟨by simp, ?_⟩
      exact ((Y4.out.setCell (Nat.le_refl _) _).setCell (Nat.le_refl _) _).setCell (Nat.le_refl _) _
  · have e1 : bdE q t b = beE q t := by unfold bdE; rw [if_pos h0]
    have e2 : bd3 q t b = (false, 0, 0) := by unfold bd3; rw [e1, if_neg h0]
    rw [e1, e2]
    unfold bV
    dsimp only
    obtain ⟨z, hz⟩ : ∃ z, beE q t = z := ⟨_, rfl⟩
    rw [hz] at HW h0 ⊢
    have q0 : (z != 0) = true := by simpa using h0
    clear hL h0 e1 e2 hz hb
    go_enter Tryz.func10, Tryz.ntmps10
    go_wp2_with fail
    refine (HW _ (HL.out.call A0.out)).out.mono ?_; rintro e w1 ⟨⟨u, rfl, hu⟩, hb1⟩
    have y1 := hid (bnext A0.out hb1)
    have k1 := hid (x0.out.call hb1)
    obtain ⟨a, c, rfl, -, -, -⟩ := hu.openS
    have r0 := k1.out.cell 0
    have r1 := k1.out.cell 1
    have r2 := k1.out.cell 2
    have f0 := k1.out.free 0
    have f1 := k1.out.free 1
    have f2 := k1.out.free 2
    simp at r0 r1 r2
    clear hb1 hu
    go_wp2_with fail
    have s3 := ((k1.out.set 0 (.bool false)).set 1 (.int .i64 0)).set 2 (.int .i64 0)
    have z0 := s3.cell 0
    have z1 := s3.cell 1
    have z2 := s3.cell 2
    simp at z0 z1 z2
    refine bodyPost_ret (v := .tuple #[.agg #[.bool false, .int .i64 0, .int .i64 0], .int .i64 z]) (by simp [results, Tryz.results10, go_sem, z0, z1, z2]) rfl ⟨rfl, ?_⟩
    exact ((y1.out.setCell (Nat.le_refl _) _).setCell (Nat.le_refl _) _).setCell (Nat.le_refl _) _
end Go.Proofs.YtpheklgnmbpobaaGreatDoor
namespace Go.Proofs.YtpheklgnmbpobaaGreatDoor
open Go.RowKit Go.Shelf
open Go.Lib (decDigits nDigits)
set_option linter.unusedVariables false
set_option linter.unusedSimpArgs false
set_option maxRecDepth 100000 in
set_option maxHeartbeats 2000000 in
theorem k_SameS (w : World) (v u : Value) (L M : List ByteArray) (hv : Row w v (strs L)) (hu : Row w u (strs M)) :
    Calls Tryz.prog 13 #[v, u] w fun e w' => e = .returned (.bool (decide (L = M))) ∧ Below w.heap.size w w' := by
  obtain ⟨a, c, rfl, h1, h2, h3⟩ := hv.openS
  obtain ⟨a', c', rfl, h1', h2', h3'⟩ := hu.openS
  obtain ⟨n, hn⟩ : ∃ n, L.length = n := ⟨_, rfl⟩
  obtain ⟨m, hm⟩ : ∃ n, M.length = n := ⟨_, rfl⟩
  rw [hn] at h1 ⊢
  rw [hm] at h1' ⊢
  have H3 := hid h3; have H3' := hid h3'; have HN := hid hn; have HM := hid hm
  clear hv hu h3 h3'
  by_cases hnm : n = m
  · subst hnm
    have q0 : ((n : Int) != (n : Int)) = false := by simp
    clear hn hm
    go_enter Tryz.func13, Tryz.ntmps13
    go_wp2_with fail
    go_loopw [5] (fun ii wr => ∃ i : Nat, ii = .int .i64 (i : Nat) ∧ i ≤ n ∧ Hid (∀ j, j < i → L[j]? = M[j]?) ∧ Hid (Below w.heap.size w wr)) (fun ii wr => n - (intOf ii).toNat)
    case atStart => exact ⟨0, rfl, Nat.zero_le _, fun j hj => absurd hj (by omega), Below.refl _ _⟩
    case round =>
      obtain ⟨i, rfl, hi, hI, hB⟩ := hrel
      by_cases hlt : i < n
      · obtain ⟨x, hx⟩ : ∃ x, L[i]? = some x := ⟨_, List.getElem?_eq_getElem (by rw [HN.out]; exact hlt)⟩
        obtain ⟨y, hy⟩ : ∃ x, M[i]? = some x := ⟨_, List.getElem?_eq_getElem (by rw [HM.out]; exact hlt)⟩
        obtain ⟨g, o, rfl, hg, k1⟩ := H3.out i x hx
        obtain ⟨g', o', rfl, hg', k1'⟩ := H3'.out i y hy
        have HX := hid hx; have HY := hid hy
        have m1 := (hB.out.cell (p := ⟨g, o + i, none⟩) hg).trans k1
        have m3 := (hB.out.cell (p := ⟨g', o' + i, none⟩) hg').trans k1'
        have b1 : (0 : Int) ≤ (i : Int) := by omega
        have b2 : (i : Int) < (n : Int) := by omega
        have wi : IntKind.i64.wrap ((i : Int) + 1) = (i : Int) + 1 := by rw [IntWalk.i64_in _ ⟨by omega, by omega⟩]
        clear k1 k1' hx hy hg hg'
        by_cases he1 : x = y
        · subst he1
          go_wp2_with fail
          refine held_plain [0, 1, 2, 3, 4, 5, 6, 7, 8] 0 (fun w' => w'.cell? ⟨g, o + i, none⟩ = some (.string x) ∧ w'.cell? ⟨g', o' + i, none⟩ = some (.string x)) (by kernel_rfl) (by kernel_rfl) (by kernel_rfl) (by kernel_rfl) ⟨m1, m3⟩ ?_
          iterate 9
            refine ⟨_, rfl, ?_⟩
            apply Exists.intro
            refine ⟨.inl ⟨by rfl, ?_⟩, ?_⟩
            · (intro W' hW'; obtain ⟨q1, q2⟩ := hW'; go_simp; try (with_reducible rfl))
            (dsimp only [Act.put]; try simp only [List.setIfInBounds_toArray, List.set_cons_zero, List.set_cons_succ])
          refine wpAnyH_done (by kernel_rfl) ?_ _
          simp only [Only]
          go_wp2_with fail
          go_roundw
          case rel => exact ⟨i + 1, rfl, by omega, fun j hj => by
            rcases Nat.lt_or_ge j i with h | h
            · exact hI.out j h
            · obtain rfl : j = i := by omega
              rw [HX.out, HY.out], hB.out.drew⟩
          case measure => simp [intOf] <;> omega
        · have n1 : (x.toList == y.toList) = false := by rw [beq_eq_false_iff_ne]; exact ne_tl he1
          have hne : decide (L = M) = false := by
            rw [decide_eq_false_iff_not]; rintro rfl
            have := HX.out.symm.trans HY.out
            simp only [Option.some.injEq] at this
            exact he1 this
          have HNE := hid hne
          clear hne he1
          go_wp2_with fail
          refine held_plain [0, 1, 2, 3, 4, 5, 6, 7, 8] 0 (fun w' => w'.cell? ⟨g, o + i, none⟩ = some (.string x) ∧ w'.cell? ⟨g', o' + i, none⟩ = some (.string y)) (by kernel_rfl) (by kernel_rfl) (by kernel_rfl) (by kernel_rfl) ⟨m1, m3⟩ ?_
          iterate 9
            refine ⟨_, rfl, ?_⟩
            apply Exists.intro
            refine ⟨.inl ⟨by rfl, ?_⟩, ?_⟩
            · (intro W' hW'; obtain ⟨q1, q2⟩ := hW'; go_simp; try (with_reducible rfl))
            (dsimp only [Act.put]; try simp only [List.setIfInBounds_toArray, List.set_cons_zero, List.set_cons_succ])
          refine wpAnyH_done (by kernel_rfl) ?_ _
          simp only [Only]
          go_wp2_with fail
          go_ret
          exact ⟨by rw [HNE.out]; rfl, hB.out.drew⟩
      · obtain rfl : i = n := by omega
        have hE : L = M := by
          apply List.ext_getElem?
          intro j
          by_cases hj : j < i
          · exact hI.out j hj
          · rw [List.getElem?_eq_none (by rw [HN.out]; omega), List.getElem?_eq_none (by rw [HM.out]; omega)]
        have HE := hid hE
        have q1 : decide ((i : Int) < (i : Int)) = false := by simp
        clear hE
        go_wp2_with fail
        go_ret
        exact ⟨by rw [decide_eq_true HE.out]; rfl, hB.out⟩
  · have hE : decide (L = M) = false := by rw [decide_eq_false_iff_not]; rintro rfl; exact hnm (hn.symm.trans hm)
    have HE := hid hE
    have q0 : ((n : Int) != (m : Int)) = true := by simp; omega
    clear hn hm hE
    go_enter Tryz.func13, Tryz.ntmps13
    go_wp2_with fail
    go_ret
    exact ⟨by rw [HE.out]; rfl, Below.refl _ _⟩
end Go.Proofs.YtpheklgnmbpobaaGreatDoor
namespace Go.Proofs.YtpheklgnmbpobaaGreatDoor
open Go.RowKit
def zs (l : List Int) : List Value := l.map (Value.int .i64)
@[simp] theorem zs_length (l : List Int) : (zs l).length = l.length := by simp [zs]
end Go.Proofs.YtpheklgnmbpobaaGreatDoor
namespace Go.Proofs.YtpheklgnmbpobaaGreatDoor
open Go.RowKit Go.Shelf
set_option linter.unusedVariables false
set_option linter.unusedSimpArgs false
theorem row_lit (w : World) (L : List ByteArray) (n : Nat) (hn : L.length = n) (hL : n ≤ 1000) : Row (w.alloc (.cells (strs L).toArray 22)) (.slice (some ⟨w.heap.size, 0, none⟩) n n) (strs L) :=
  Row.of_blk (Blk.new w _ _) (by rw [strs_length]; exact hn) (by unfold maxLen; omega) (fun i x h => by rw [List.getElem?_toArray]; exact h) (Nat.le_refl _) (by unfold maxLen; omega)
end Go.Proofs.YtpheklgnmbpobaaGreatDoor
namespace Go.Proofs.YtpheklgnmbpobaaGreatDoor
open Go.RowKit Go.Shelf
open Go.Lib (decDigits nDigits)
set_option linter.unusedVariables false
set_option linter.unusedSimpArgs false
theorem lv_E : beE ⟨#[49, 47, 50]⟩ 2 = 0 ∧ beE ⟨#[49, 47, 50]⟩ 1 = 0 := by decide +kernel
theorem lv_V : beV ⟨#[49, 47, 50]⟩ 2 = [1, 8, 16, 8, 1] ∧ beV ⟨#[49, 47, 50]⟩ 1 = [1, 2, 1] := by decide +kernel
theorem lv_W : beW ⟨#[49, 47, 50]⟩ 2 = [⟨#[49]⟩, ⟨#[56]⟩, ⟨#[49, 54]⟩, ⟨#[56]⟩, ⟨#[49]⟩] := by
  rw [(beV_W lv_E.1).1, lv_V.1]
  decide +kernel
theorem lv_D : bdE ⟨#[49, 47, 50]⟩ 1 ⟨#[48, 48]⟩ = 0 ∧ bd3 ⟨#[49, 47, 50]⟩ 1 ⟨#[48, 48]⟩ = (true, -1, 2) := by
  have hE : bdE ⟨#[49, 47, 50]⟩ 1 ⟨#[48, 48]⟩ = 0 := by
    rw [(beV_drE lv_E.2 _).2]; decide
  refine ⟨hE, ?_⟩
  unfold bd3
  rw [if_pos hE, lv_V.2]
  show bsh 1 (pdr (pkF [1, 2, 1]) 0 1 [48, 48]) = _
  rw [pdr_next (by decide), pdr_next (by decide), pdr_done (by decide)]
  decide
theorem row_litN (w : World) (L : List ByteArray) (cs : Array Value) (n b : Nat) (hc : cs = (strs L).toArray) (hb : w.heap.size = b) (hn : L.length = n) (hL : n ≤ 1000) : Row (w.alloc (.cells cs 22)) (.slice (some ⟨b, 0, none⟩) n n) (strs L) := by
  subst hc hb
  exact row_lit w L n hn hL
set_option maxRecDepth 100000 in
set_option maxHeartbeats 4000000 in
theorem w_lives (w : World) (hL : Lay w) :
    Calls Tryz.prog 8 #[] w fun e w' => e = .returned (.bool true) ∧ Below w.heap.size w w' := by
  have HL := hid hL
  have PW := fun V hV => hid (b_Weights V ⟨#[49, 47, 50]⟩ 2 (by decide) hV)
  have PD := fun V hV => hid (b_Draw V ⟨#[49, 47, 50]⟩ 1 ⟨#[48, 48]⟩ (by decide) (by decide) hV)
  rw [lv_E.1, lv_W] at PW
  rw [lv_D.1, lv_D.2] at PD
  simp only [bV] at PD
  clear hL
  go_enter Tryz.func8, Tryz.ntmps8
  go_wp2_with fail
  refine (PW _ HL.out).out.mono ?_; rintro e w1 ⟨⟨u, rfl, hu⟩, hb1⟩
  obtain ⟨a1, c1, rfl, -, -, -⟩ := hu.openS
  have U1 := hid hu; have y1 := hid hb1; clear hu hb1
  go_wp2_with fail
  refine (PD _ (HL.out.call y1.out)).out.mono ?_; rintro e w2 ⟨rfl, hb2⟩
  have y2 := hid (bnext y1.out hb2); have V2 := hid (U1.out.call hb2); clear hb2
  have X2 := hid (Blk.new w2 #[.bool true, .int .i64 (-1), .int .i64 2] 33)
  have A2 := hid ((Below.refl w2.heap.size w2).alloc (Nat.le_refl _) (.cells #[.bool true, .int .i64 (-1), .int .i64 2] 33))
  have A3 := hid ((A2.out.alloc A2.out.size (.cells #[.string ⟨#[49]⟩, .string ⟨#[56]⟩, .string ⟨#[49, 54]⟩, .string ⟨#[56]⟩, .string ⟨#[49]⟩] 22)))
  have X3 := hid (X2.out.alloc (.cells #[.string ⟨#[49]⟩, .string ⟨#[56]⟩, .string ⟨#[49, 54]⟩, .string ⟨#[56]⟩, .string ⟨#[49]⟩] 22))
  have R3 := hid (row_litN (w2.alloc (.cells #[.bool true, .int .i64 (-1), .int .i64 2] 33)) [⟨#[49]⟩, ⟨#[56]⟩, ⟨#[49, 54]⟩, ⟨#[56]⟩, ⟨#[49]⟩] _ 5 (w2.heap.size + 1) rfl (by simp) rfl (by omega))
  have V3 := hid (V2.out.call A3.out)
  have y3 := hid (bnext y2.out A3.out)
  have PS := fun V u v hu hv => hid (k_SameS V u v [⟨#[49]⟩, ⟨#[56]⟩, ⟨#[49, 54]⟩, ⟨#[56]⟩, ⟨#[49]⟩] [⟨#[49]⟩, ⟨#[56]⟩, ⟨#[49, 54]⟩, ⟨#[56]⟩, ⟨#[49]⟩] hu hv)
  rw [decide_eq_true rfl] at PS
  go_wp2_with fail
  refine (PS _ _ _ V3.out R3.out).out.mono ?_; rintro e w4 ⟨rfl, hb4⟩
  have y4 := hid (bnext y3.out hb4)
  have X4 := hid (X3.out.call hb4)
  have r0 := X4.out.cell 0
  have r1 := X4.out.cell 1
  have r2 := X4.out.cell 2
  simp at r0 r1 r2
  clear hb4
  go_wp2_with fail
  go_ret
  exact ⟨rfl, y4.out⟩
end Go.Proofs.YtpheklgnmbpobaaGreatDoor
namespace Go.Proofs
open Go.Shelf
def Tryz.lenW_ren : Go.Shelf.Ren := ⟨fun | 125 => 128 | 128 => 174 | 129 => 175 | n => n, fun | 46 => 158 | 3 => 3 | 51 => 202 | 53 => 164 | 4 => 4 | 5 => 5 | 9 => 9 | n => n, fun | n => n⟩
theorem Tryz.lenW : Go.Proofs.Lays.n125 Tryz.prog Tryz.lenW_ren := {
  mixed := by kernel_rfl
  f125 := Tryz.func128.trans (congrArg some (by kernel_rfl))
  f128 := Tryz.func174.trans (congrArg some (by kernel_rfl))
  f129 := Tryz.func175.trans (congrArg some (by kernel_rfl))
  t3 := Tryz.underlying3
  a3 := Tryz.isAgg3
  z3 := Tryz.sizeOf3
  v3 := Tryz.zeroValue3
  t4 := Tryz.underlying4
  a4 := Tryz.isAgg4
  z4 := Tryz.sizeOf4
  v4 := Tryz.zeroValue4
  t5 := Tryz.underlying5
  a5 := Tryz.isAgg5
  z5 := Tryz.sizeOf5
  v5 := Tryz.zeroValue5
  t9 := Tryz.underlying9
  a9 := Tryz.isAgg9
  z9 := Tryz.sizeOf9
  v9 := Tryz.zeroValue9
  t46 := Tryz.underlying158
  a46 := Tryz.isAgg158
  z46 := Tryz.sizeOf158
  v46 := Tryz.zeroValue158
  t51 := Tryz.underlying202
  a51 := Tryz.isAgg202
  z51 := Tryz.sizeOf202
  v51 := Tryz.zeroValue202
  t53 := Tryz.underlying164
  a53 := Tryz.isAgg164
  z53 := Tryz.sizeOf164
  v53 := Tryz.zeroValue164 }
end Go.Proofs
namespace Go.Proofs.YtpheklgnmbpobaaGreatDoor
open Go.RowKit Go.Sort Go.Shelf Go.Lib
set_option linter.unusedVariables false
set_option linter.unusedSimpArgs false
def cmpK (p q : ByteArray × ByteArray) : Int := if keyL p < keyL q then -1 else if keyL q < keyL p then 1 else 0
theorem cmpK_neg (p q : ByteArray × ByteArray) : cmpK p q < 0 ↔ keyL p < keyL q := by
  unfold cmpK
  split
  · rename_i h; simp [h]
  · rename_i h
    split <;> simp [h]
def encM (p : ByteArray × ByteArray) : List Value := [.string p.1, .string p.2]
theorem swoM : SWO (ltOf cmpK) where
  irrefl x := by
    simp only [ltOf, decide_eq_false_iff_not, cmpK_neg]
    exact List.lt_irrefl _
  trans x y z h1 h2 := by
    simp only [ltOf, decide_eq_true_eq, cmpK_neg] at *
    exact List.lt_trans h1 h2
  ntrans x y z h1 h2 := by
    simp only [ltOf, decide_eq_false_iff_not, cmpK_neg, List.not_lt] at *
    exact List.le_trans h2 h1
theorem massC_at {L : List (ByteArray × ByteArray)} (i : Nat) : (massC L)[i]? = (L[i / 2]?).map (fun p => if i % 2 = 0 then Value.string p.1 else Value.string p.2) := by
  cases h : L[i / 2]? with
  | none =>
    rw [List.getElem?_eq_none_iff] at h
    rw [Option.map_none, List.getElem?_eq_none_iff, massC_length]
    omega
  | some p =>
    obtain ⟨h1, h2⟩ := massC_get h
    rw [Option.map_some]
    by_cases hm : i % 2 = 0
    · rw [if_pos hm, show i = 2 * (i / 2) by omega]; exact h1
    · rw [if_neg hm, show i = 2 * (i / 2) + 1 by omega]; exact h2
theorem flatK_mass (d : Array (ByteArray × ByteArray)) : (flatK encM 2 d).toList = massC d.toList := by
  apply List.ext_getElem?
  intro i
  rw [massC_at]
  by_cases hi : i < d.size * 2
  · have e1 := get_flatK encM 2 d i (by omega)
    rw [getElem!_pos _ _ (by simp; omega)] at e1
    have hi2 : i / 2 < d.size := by omega
    rw [Array.getElem?_toList, Array.getElem?_eq_getElem (by simp; omega), e1, Array.getElem?_toList, Array.getElem?_eq_getElem hi2, Option.map_some, getElem!_pos d (i / 2) hi2]
    by_cases hm : i % 2 = 0
    · rw [if_pos hm, hm]; rfl
    · rw [if_neg hm, show i % 2 = 1 by omega]; rfl
  · rw [List.getElem?_eq_none (by simp; omega), Array.getElem?_toList, Array.getElem?_eq_none (by omega)]; rfl
theorem heap_sortedK {w : World} {g n : Nat} {os : Array Obj} {cur : Array Value} {e : TypeId} {fr : Nat × Nat} (d : Array Value) (hb : w.heap[g]? = some (.cells cur e fr)) :
    (grow (putRow id (Sort.ahead w n) g 0 d) os).heap[g]? = some (.cells (putCells id 0 d cur) e fr) := by
  have hg : g < w.heap.size := (Array.getElem?_eq_some_iff.1 hb).1
  rw [Go.Sort.heap_grow_old _ _ (by simpa using hg)]
  simp [putRow, mapBlock, Sort.ahead, Array.getElem?_modify, hb, onCells]
theorem below_sortedK {w : World} {g n base : Nat} {os : Array Obj} (d : Array Value) (hb : base ≤ g) (hw : base ≤ w.heap.size) : Below base w (grow (putRow id (Sort.ahead w n) g 0 d) os) := by
  refine ⟨rfl, rfl, rfl, by simp, fun k hk => ?_⟩
  rw [Go.Sort.heap_grow_old _ _ (by simp; omega)]
  have : g ≠ k := by omega
  simp [putRow, mapBlock, Sort.ahead, Array.getElem?_modify, this]
theorem take_putCellsK (cur F : Array Value) (h : F.size ≤ cur.size) : (putCells id 0 F cur).toList.take F.size = F.toList := by
  apply List.ext_getElem?
  intro j
  by_cases hj : j < F.size
  · rw [List.getElem?_take_of_lt hj, Array.getElem?_toList]
    simp [putCells, hj, show j < cur.size by omega]
  · rw [List.getElem?_take_eq_none (by omega), List.getElem?_eq_none (by simp; omega)]
theorem permIn_all {d d' : Array (ByteArray × ByteArray)} (h : PermIn 0 d.size d d') : d'.size = d.size ∧ d'.toList.Perm d.toList := by
  obtain ⟨h1, _, h3⟩ := h
  refine ⟨h1, ?_⟩
  have e1 : d'.extract 0 d.size = d' := by rw [← h1]; simp
  have e2 : d.extract 0 d.size = d := by simp
  rwa [e1, e2] at h3
theorem sortedIn_all {d' : Array (ByteArray × ByteArray)} (h : SortedIn (ltOf cmpK) 0 d'.size d') : d'.toList.Pairwise (fun p q => leB (keyL p) (keyL q) = true) := by
  rw [List.pairwise_iff_getElem]
  intro i j hi hj hij
  have := h i j (Nat.zero_le _) hij (by simpa using hj)
  simp only [ltOf, decide_eq_false_iff_not, cmpK_neg, List.not_lt] at this
  rw [getElem!_pos _ _ (by simpa using hi), getElem!_pos _ _ (by simpa using hj)] at this
  simp only [leB, decide_eq_true_eq]
  simpa using this
theorem sorted_is {L M : List (ByteArray × ByteArray)} (hp : L.Perm M) (hs : L.Pairwise (fun p q => leB (keyL p) (keyL q) = true)) (nd : (M.map keyL).Nodup) : L = sortM M := by
  have nd2 : (L.map keyL).Nodup := ((hp.map keyL).nodup_iff).2 nd
  rw [← sortM_same nd2 nd (fun p => hp.mem_iff)]
  exact (List.mergeSort_of_pairwise hs).symm
end Go.Proofs.YtpheklgnmbpobaaGreatDoor
namespace Go.Proofs
open Go.Shelf
def Tryz.sortBW_ren : Go.Shelf.Ren := ⟨fun | 14 => 127 | 20 => 166 | 21 => 167 | 22 => 168 | 23 => 169 | 24 => 170 | 25 => 171 | 26 => 172 | 27 => 173 | 46 => 205 | 47 => 206 | 48 => 207 | 49 => 208 | 50 => 209 | 15 => 128 | 57 => 242 | 28 => 174 | 29 => 175 | n => n, fun | 24 => 103 | 22 => 98 | 3 => 3 | 25 => 105 | 4 => 4 | 0 => 0 | 46 => 196 | 45 => 195 | 50 => 160 | 66 => 231 | 39 => 158 | 55 => 164 | 70 => 235 | 76 => 260 | 77 => 261 | 53 => 202 | 5 => 5 | 9 => 9 | n => n, fun | n => n⟩
theorem Tryz.sortBW : Go.Proofs.SlLaysF0.n14 Tryz.prog Tryz.sortBW_ren := {
  mixed := by kernel_rfl
  f14 := ⟨Tryz.f127.name, by decide, Tryz.func127.trans (congrArg some (by kernel_rfl))⟩
  f15 := Tryz.func128.trans (congrArg some (by kernel_rfl))
  f20 := ⟨Tryz.f166.name, by decide, Tryz.func166.trans (congrArg some (by kernel_rfl))⟩
  f21 := ⟨Tryz.f167.name, by decide, Tryz.func167.trans (congrArg some (by kernel_rfl))⟩
  f22 := ⟨Tryz.f168.name, by decide, Tryz.func168.trans (congrArg some (by kernel_rfl))⟩
  f23 := ⟨Tryz.f169.name, by decide, Tryz.func169.trans (congrArg some (by kernel_rfl))⟩
  f24 := ⟨Tryz.f170.name, by decide, Tryz.func170.trans (congrArg some (by kernel_rfl))⟩
  f25 := ⟨Tryz.f171.name, by decide, Tryz.func171.trans (congrArg some (by kernel_rfl))⟩
  f26 := ⟨Tryz.f172.name, by decide, Tryz.func172.trans (congrArg some (by kernel_rfl))⟩
  f27 := ⟨Tryz.f173.name, by decide, Tryz.func173.trans (congrArg some (by kernel_rfl))⟩
  f28 := Tryz.func174.trans (congrArg some (by kernel_rfl))
  f29 := Tryz.func175.trans (congrArg some (by kernel_rfl))
  f46 := ⟨Tryz.f205.name, by decide, Tryz.func205.trans (congrArg some (by kernel_rfl))⟩
  f47 := Tryz.func206.trans (congrArg some (by kernel_rfl))
  f48 := Tryz.func207.trans (congrArg some (by kernel_rfl))
  f49 := ⟨Tryz.f208.name, by decide, Tryz.func208.trans (congrArg some (by kernel_rfl))⟩
  f50 := ⟨Tryz.f209.name, by decide, Tryz.func209.trans (congrArg some (by kernel_rfl))⟩
  f57 := ⟨Tryz.f242.name, by decide, Tryz.func242.trans (congrArg some (by kernel_rfl))⟩
  t0 := Tryz.underlying0
  a0 := Tryz.isAgg0
  z0 := Tryz.sizeOf0
  v0 := Tryz.zeroValue0
  t3 := Tryz.underlying3
  a3 := Tryz.isAgg3
  z3 := Tryz.sizeOf3
  v3 := Tryz.zeroValue3
  t4 := Tryz.underlying4
  a4 := Tryz.isAgg4
  z4 := Tryz.sizeOf4
  v4 := Tryz.zeroValue4
  t5 := Tryz.underlying5
  a5 := Tryz.isAgg5
  z5 := Tryz.sizeOf5
  v5 := Tryz.zeroValue5
  t9 := Tryz.underlying9
  a9 := Tryz.isAgg9
  z9 := Tryz.sizeOf9
  v9 := Tryz.zeroValue9
  t22 := Tryz.underlying98
  a22 := Tryz.isAgg98
  z22 := Tryz.sizeOf98
  v22 := Tryz.zeroValue98
  t25 := Tryz.underlying105
  a25 := Tryz.isAgg105
  z25 := Tryz.sizeOf105
  v25 := Tryz.zeroValue105
  t39 := Tryz.underlying158
  a39 := Tryz.isAgg158
  z39 := Tryz.sizeOf158
  v39 := Tryz.zeroValue158
  t45 := Tryz.underlying195
  a45 := Tryz.isAgg195
  z45 := Tryz.sizeOf195
  v45 := Tryz.zeroValue195
  t46 := Tryz.underlying196
  a46 := Tryz.isAgg196
  z46 := Tryz.sizeOf196
  v46 := Tryz.zeroValue196
  t50 := Tryz.underlying160
  a50 := Tryz.isAgg160
  z50 := Tryz.sizeOf160
  v50 := Tryz.zeroValue160
  t53 := Tryz.underlying202
  a53 := Tryz.isAgg202
  z53 := Tryz.sizeOf202
  v53 := Tryz.zeroValue202
  t55 := Tryz.underlying164
  a55 := Tryz.isAgg164
  z55 := Tryz.sizeOf164
  v55 := Tryz.zeroValue164
  t66 := Tryz.underlying231
  a66 := Tryz.isAgg231
  z66 := Tryz.sizeOf231
  v66 := Tryz.zeroValue231
  t70 := Tryz.underlying235
  a70 := Tryz.isAgg235
  z70 := Tryz.sizeOf235
  v70 := Tryz.zeroValue235
  t76 := Tryz.underlying260
  a76 := Tryz.isAgg260
  z76 := Tryz.sizeOf260
  v76 := Tryz.zeroValue260
  t77 := Tryz.underlying261
  a77 := Tryz.isAgg261
  z77 := Tryz.sizeOf261
  v77 := Tryz.zeroValue261 }
end Go.Proofs
namespace Go.Proofs.YtpheklgnmbpobaaGreatDoor
open Go.RowKit
set_option linter.unusedVariables false
set_option linter.unusedSimpArgs false
structure Seen (c : Int → Nat) (n : Nat) (left : Int → Bool) (vs : List Int) : Prop where
  nd : vs.Nodup
  mem : ∀ v, v ∈ vs ↔ c v ≠ 0 ∧ left v = false
theorem Seen.start {c : Int → Nat} {n : Nat} {left : Int → Bool} (h : ∀ v, c v ≠ 0 → left v = true) : Seen c n left [] := ⟨List.nodup_nil, fun v => ⟨fun hv => by simp at hv, fun ⟨h1, h2⟩ => by rw [h v h1] at h2; cases h2⟩⟩
end Go.Proofs.YtpheklgnmbpobaaGreatDoor
namespace Go.Proofs.YtpheklgnmbpobaaGreatDoor
open Go.RowKit Go.Sort Go.Shelf Go.Maps
open Go.Lib (decDigits nDigits)
set_option linter.unusedVariables false
set_option linter.unusedSimpArgs false
theorem s_ItoaZ (w : World) (v : Int) (h1 : -100000 ≤ v) (h2 : v ≤ 100000) (hL : Lay w) :
    Calls Tryz.prog 72 #[.int .i64 v] w fun e w' => e = .returned (.string (zB v)) ∧ Below w.heap.size w w' := by
  refine (Tryz.strconv_Itoa v (by omega) (by omega) w hL.tab).mono ?_
  rintro e w' ⟨rfl, k, os, rfl⟩
  exact ⟨rfl, below_grow w k os⟩
theorem less_bytes (x z : ByteArray) : Op.bytesLess x.toList z.toList = decide (x.data.toList < z.data.toList) := by
  rw [bytesLess_eq, Lib.toList_data, Lib.toList_data]
set_option maxRecDepth 100000 in
theorem s_isNaN (w : World) (x : ByteArray) : Calls Tryz.prog 176 #[.string x] w fun e w' => e = .returned (.bool false) ∧ w = w' := by
  have q1 : (x.toList != x.toList) = false := by simp
  have q2 : (x.toList == x.toList) = true := by simp
  go_enter Tryz.func176, Tryz.ntmps176
  go_wp2_with fail
  go_ret
  exact ⟨rfl, rfl⟩
set_option maxRecDepth 100000 in
set_option maxHeartbeats 1000000 in
theorem s_Compare (w : World) (x z : ByteArray) : Calls Tryz.prog 129 #[.string x, .string z] w fun e w' => e = .returned (.int .i64 (if x.data.toList < z.data.toList then -1 else if z.data.toList < x.data.toList then 1 else 0)) ∧ w = w' := by
  have h1 := less_bytes x z
  have h2 := less_bytes z x
  have N1 := fun V => hid (s_isNaN V x)
  have N2 := fun V => hid (s_isNaN V z)
  by_cases c1 : x.data.toList < z.data.toList
  · rw [if_pos c1]
    rw [decide_eq_true c1] at h1
    clear h2 c1
    go_enter Tryz.func129, Tryz.ntmps129
    go_wp2_with fail
    refine (N1 _).out.mono ?_; rintro e w1 ⟨rfl, rfl⟩
    go_wp2_with fail
    refine (N2 _).out.mono ?_; rintro e w1 ⟨rfl, rfl⟩
    go_wp2_with fail
    go_ret
    exact ⟨rfl, rfl⟩
  · rw [if_neg c1]
    rw [decide_eq_false c1] at h1
    by_cases c2 : z.data.toList < x.data.toList
    · rw [if_pos c2]
      rw [decide_eq_true c2] at h2
      have h3 : (x.toList == z.toList) = false := by
        rw [beq_eq_false_iff_ne]
        intro e
        rw [Lib.toList_data, Lib.toList_data] at e
        rw [e] at c2
        exact List.lt_irrefl _ c2
      clear c1 c2
      go_enter Tryz.func129, Tryz.ntmps129
      go_wp2_with fail
      refine (N1 _).out.mono ?_; rintro e w1 ⟨rfl, rfl⟩
      go_wp2_with fail
      refine (N2 _).out.mono ?_; rintro e w1 ⟨rfl, rfl⟩
      go_wp2_with fail
      go_ret
      exact ⟨rfl, rfl⟩
    · rw [if_neg c2]
      rw [decide_eq_false c2] at h2
      have h3 : (x.toList == z.toList) = true := by
        rw [beq_iff_eq, Lib.toList_data, Lib.toList_data]
        exact List.le_antisymm (List.not_lt.1 c2) (List.not_lt.1 c1)
      clear c1 c2
      go_enter Tryz.func129, Tryz.ntmps129
      go_wp2_with fail
      refine (N1 _).out.mono ?_; rintro e w1 ⟨rfl, rfl⟩
      go_wp2_with fail
      refine (N2 _).out.mono ?_; rintro e w1 ⟨rfl, rfl⟩
      go_wp2_with fail
      go_ret
      exact ⟨rfl, rfl⟩
end Go.Proofs.YtpheklgnmbpobaaGreatDoor
namespace Go.Proofs.YtpheklgnmbpobaaGreatDoor
open Go.RowKit Go.Sort Go.Shelf Go.Lib
set_option linter.unusedVariables false
set_option linter.unusedSimpArgs false
set_option maxHeartbeats 2000000 in
theorem s_SortB (F : Nat) (g cap base : Nat) (d : Array (ByteArray × ByteArray)) (w : World) (cur : Array Value) (hb : base ≤ g) (hg : w.heap[g]? = some (.cells cur 103 (0, 0))) (h1 : d.size ≤ cap) (h2 : cap ≤ maxLen) (h3 : cur.size = cap * 2) (h4 : cur.toList.take (d.size * 2) = massC d.toList) (hs : d.size ≤ 1000) (hnd : (d.toList.map keyL).Nodup)
    (eg : ∀ args w, (callFunc F args).run Tryz.prog w = .ok (.enter F args) w) (hF : ∀ (x y : ByteArray × ByteArray) (W : World), Calls Tryz.prog F #[.agg #[.string x.1, .string x.2], .agg #[.string y.1, .string y.2]] W fun e w' => e = .returned (.int .i64 (cmpK x y)) ∧ ∃ n os', w' = grow (W.drewN n) os') :
    Calls Tryz.prog 75 #[.slice (some ⟨g, 0, none⟩) d.size cap, .func (.func F) #[] #[]] w fun e w' => e = .returned (.tuple #[]) ∧ w'.ownsRow base 103 2 (.slice (some ⟨g, 0, none⟩) d.size cap) d.size (massC (sortM d.toList)) ∧ Below base w w' := by
  have hblk : g < w.heap.size := (Array.getElem?_eq_some_iff.1 hg).1
  have hH : HoldsK encM 2 w g 0 d := by
    intro j hj
    have hj' : j < d.size * 2 := by simpa using hj
    refine ⟨?_, by simp [World.frozen?, hg]⟩
    have e : (cur.toList.take (d.size * 2))[j]? = (flatK encM 2 d).toList[j]? := by rw [h4, flatK_mass]
    rw [List.getElem?_take_of_lt hj'] at e
    simp only [World.cell?, hg, Nat.zero_add]
    simp only [Option.isSome_none, Bool.false_eq_true, if_false]
    rw [← Array.getElem?_toList, e, Array.getElem?_toList, Array.getElem?_eq_getElem hj, getElem!_pos (flatK encM 2 d) j hj]
    rfl
  have hcmp : CmpLays Tryz.prog F #[] encM 2 cmpK g 0 d.size w := fun _ _ _ _ x y => hF x y _
  have hd : ∀ x : ByteArray × ByteArray, (encM x).length = 2 := fun _ => rfl
  have h1c : ∀ x : ByteArray × ByteArray, ∀ v ∈ encM x, v.oneCell' = true := fun x v hv => by simp [encM] at hv; rcases hv with rfl | rfl <;> rfl
  have hlim : Lib.bitLen d.size < 4611686018427387904 := Nat.lt_of_le_of_lt (Lib.bitLen_le d.size 62 (by omega) (by omega)) (by omega)
  have hpd := AnyQ.pdqsortCmpFunc_all Tryz.sortBW 2 Tryz.isAgg103 Tryz.sizeOf103 encM cmpK F #[] swoM g 0 cap d w eg hcmp ⟨hd, h1c, hH, hblk⟩ (d.size + 1) 0 d.size (Lib.bitLen d.size) d w (by omega) rfl (SWK.start hH) (Nat.zero_le _) (Nat.le_refl _) (by omega) hlim (Or.inl rfl)
  change Calls Tryz.prog 127 _ _ _ at hpd
  have hbl : Calls Tryz.prog 128 #[.int .u64 (d.size : Int)] w fun e w' => e = .returned (.int .i64 (Lib.bitLen d.size : Nat)) ∧ w' = w := by
    have h := Any.bits_Len Tryz.lenW (d.size : Int) w (by omega) (by omega)
    rwa [Int.toNat_natCast] at h
  have wr : IntKind.u64.wrap (d.size : Int) = d.size := by simp [IntKind.wrap, IntKind.bits, IntKind.signed]; omega
  have hz := pdq_sorts (ltOf cmpK) swoM d 0 d.size (Lib.bitLen d.size) true true (Nat.zero_le _) (Nat.le_refl _) (Or.inl rfl)
  have P := permIn_all hz.1
  have hz2 := hz.2
  generalize pdq (ltOf cmpK) d 0 d.size (Lib.bitLen d.size) true true = d' at *
  have S := sortedIn_all (P.1 ▸ hz2)
  have hd' : d'.toList = sortM d.toList := sorted_is P.2 S hnd
  clear hH hcmp hz hz2 hF
  have h2h := hid h2; clear h2
  have h4h := hid h4; clear h4
  have HND := hid hnd; clear hnd
  go_enter Tryz.func75, Tryz.ntmps75
  go_wp2_with fail
  refine hbl.mono ?_; rintro e w' ⟨rfl, rfl⟩
  go_wp2_with fail
  refine hpd.mono ?_; rintro e w' ⟨rfl, n, os, rfl⟩
  go_wp2_with fail
  go_end0
  refine ⟨rfl, ⟨?_, .inr ⟨g, cap, _, rfl, hb, heap_sortedK _ hg, h1, h2h.out, by simp [putCells, h3], ?_⟩⟩, below_sortedK _ hb (by omega)⟩
  · rw [massC_length, ← hd']; simp [P.1]
  · rw [← hd', ← flatK_mass]
    have := take_putCellsK cur (flatK encM 2 d') (by rw [size_flatK, P.1, h3]; omega)
    rwa [size_flatK, P.1] at this
set_option maxHeartbeats 1000000 in
theorem s_SortB0 (F : Nat) (w : World) :
    Calls Tryz.prog 75 #[.slice none 0 0, .func (.func F) #[] #[]] w fun e w' => e = .returned (.tuple #[]) ∧ w' = w := by
  have hpd := fun V => hid (AnyF.pdqsortCmpFunc_none Tryz.sortBW none 0 0 (.func (.func F) #[] #[]) V)
  have hbl : Calls Tryz.prog 128 #[.int .u64 0] w fun e w' => e = .returned (.int .i64 0) ∧ w' = w := by
    have h := Any.bits_Len Tryz.lenW 0 w (by omega) (by omega)
    exact h
  go_enter Tryz.func75, Tryz.ntmps75
  go_wp2_with fail
  refine hbl.mono ?_; rintro e w' ⟨rfl, rfl⟩
  go_wp2_with fail
  refine (hpd _).out.mono ?_; rintro e w' ⟨rfl, rfl⟩
  go_wp2_with fail
  go_end0
  exact ⟨rfl, rfl⟩
set_option maxRecDepth 100000 in
set_option maxHeartbeats 1000000 in
theorem b_before (p q : ByteArray × ByteArray) (w : World) : Calls Tryz.prog 76 #[.agg #[.string p.1, .string p.2], .agg #[.string q.1, .string q.2]] w fun e w' => e = .returned (.int .i64 (cmpK p q)) ∧ ∃ n os', w' = grow (w.drewN n) os' := by
  obtain ⟨p1, p2⟩ := p
  obtain ⟨q1, q2⟩ := q
  dsimp only
  have HC := fun V => hid (s_Compare V p1 q1)
  unfold cmpK keyL
  dsimp only
  obtain ⟨r, hr⟩ : ∃ r : Int, (if p1.data.toList < q1.data.toList then (-1 : Int) else if q1.data.toList < p1.data.toList then 1 else 0) = r := ⟨_, rfl⟩
  rw [hr] at HC ⊢
  clear hr
  go_enter Tryz.func76, Tryz.ntmps76
  go_wp2_with fail
  refine (HC _).out.mono ?_; rintro e w1 ⟨rfl, rfl⟩
  go_wp2_with fail
  go_ret
  exact ⟨rfl, 0, _, by rw [alloc_eq_grow, alloc_eq_grow, grow_grow]; rfl⟩
end Go.Proofs.YtpheklgnmbpobaaGreatDoor
namespace Go.Proofs.YtpheklgnmbpobaaGreatDoor
open Go.RowKit Go.Shelf
open Go.Lib (decDigits nDigits)
set_option linter.unusedVariables false
set_option linter.unusedSimpArgs false
theorem info_bmass : (Tryz.prog.info? 103).map (fun i => (i.zero, i.size, i.bytes)) = some (some (.agg #[.string ⟨#[]⟩, .string ⟨#[]⟩]), 2, 32) := by kernel_rfl
set_option maxRecDepth 100000 in
set_option maxHeartbeats 1000000 in
theorem b_sort (W : World) (base : Nat) (v : Value) (l : List (ByteArray × ByteArray)) (n : Nat) (h : W.ownsRow base 103 2 v n (massC l)) (hl : l.length = n) (hn : n ≤ 1000) (hnd : (l.map keyL).Nodup) (hB : base ≤ W.heap.size) :
    Calls Tryz.prog 75 #[v, .func (.func 76) #[] #[]] W fun e w' => e = .returned (.tuple #[]) ∧ MRow w' v (sortM l) ∧ Below base W w' := by
  rcases h.2 with ⟨rfl, h2⟩ | ⟨g, cap, cur, rfl, hb, hg, h1, h2, h3, h4⟩
  · have e0 : n = 0 := by
      have h3 := h.1
      rw [h2] at h3
      simp at h3
      omega
    subst e0
    obtain rfl : l = [] := List.length_eq_zero_iff.1 hl
    refine (s_SortB0 _ W).mono ?_
    rintro e w' ⟨rfl, rfl⟩
    exact ⟨rfl, by rw [sortM, List.mergeSort_nil]; exact MRow.nil _, Below.refl _ _⟩
  · subst hl
    refine (s_SortB _ g cap base l.toArray W cur hb hg (by simpa using h1) h2 h3 (by simpa using h4) (by simpa using hn) (by simpa using hnd) (enters_of Tryz.func76 (by kernel_rfl) rfl) (fun x y V => b_before x y V)).mono ?_
    rintro e w' ⟨rfl, h5, h6⟩
    exact ⟨rfl, MRow.of_owns (by simpa using h5), h6⟩
set_option maxRecDepth 100000 in
set_option maxHeartbeats 4000000 in
theorem b_shifted (w : World) (v : Value) (L : List (ByteArray × ByteArray)) (t : Nat) (hv : MRow w v L) (hs : ShOk L) (hnd : (L.map keyL).Nodup) (hl : L.length ≤ 65) (ht : t ≤ 16) (hL : LayB w) :
    Calls Tryz.prog 33 #[v, .int .i64 (t : Nat)] w fun e w' => (∃ u, e = .returned u ∧ MRow w' u (sortM (L.map (shP t)))) ∧ Below w.heap.size w w' := by
  have HV := hid hv; have HL := hid hL; have HS := hid hs
  have HND := hid (shP_key (t := (t : Int)) hs hnd)
  obtain ⟨i0, hi, hz0, hz1, hz2⟩ := info_parts info_mass
  obtain ⟨j0, ki, kz0, kz1, kz2⟩ := info_parts info_bmass
  obtain ⟨a, c, rfl, q1, q2, q3⟩ := hv.ex
  obtain ⟨n, hn⟩ : ∃ n, L.length = n := ⟨_, rfl⟩
  have HN := hid hn
  rw [hn] at HV q1 hl ⊢
  have H3 := hid q3
  have PA := fun V i (h : i ≤ 1000000) => hid (b_AtoiN V i h)
  have PL := fun V h => hid (b_AtoiL V h)
  have PI := fun V (x : Int) h1 h2 hV => hid (s_ItoaZ V x h1 h2 hV)
  clear hv hL hs hnd hn q3
  go_enter Tryz.func33, Tryz.ntmps33
  go_wp2_with fail
  go_loopw [5, 15] (fun s5 s15 wr => ∃ i : Nat, s15 = .int .i64 (i : Nat) ∧ i ≤ n ∧ Hid (wr.ownsRow w.heap.size 103 2 s5 i (massC ((L.take i).map (shP t)))) ∧ Hid (Below w.heap.size w wr)) (fun s5 s15 wr => n - (intOf s15).toNat)
  case atStart => exact ⟨0, rfl, Nat.zero_le _, ⟨rfl, .inl ⟨rfl, rfl⟩⟩, Below.refl _ _⟩
  case round =>
    obtain ⟨i, rfl, hi', hO, hB⟩ := hrel
    by_cases hlt : i < n
    · obtain ⟨p, hp⟩ : ∃ p, L[i]? = some p := ⟨_, List.getElem?_eq_getElem (by rw [HN.out]; exact hlt)⟩
      obtain ⟨g, o, rfl, hg, m1, m2⟩ := H3.out i p hp
      obtain ⟨a3, c3, rfl⟩ := owns_ex hO.out
      obtain ⟨pk, pv⟩ := p
      dsimp only at m1 m2
      rw [Nat.mul_comm 2] at m1 m2
      have hk := HS.out _ (List.mem_of_getElem? hp)
      dsimp only at hk
      have r1 := (hB.out.cell (p := ⟨g, o + i * 2, none⟩) hg).trans m1
      have r2 := (hB.out.cell (p := ⟨g, o + i * 2 + 1, none⟩) hg).trans m2
      have b1 : (0 : Int) ≤ (i : Int) := by omega
      have b2 : (i : Int) < (n : Int) := by omega
      have wi : IntKind.i64.wrap ((i : Int) + 1) = ((i + 1 : Nat) : Int) := by rw [IntWalk.i64_in _ ⟨by omega, by omega⟩]; omega
      have HP := hid hp; have HK := hid hk; have HG := hid hg
      clear hp hk m1 m2 hg
      go_wp2_with fail
      have X1 := hid (Blk.new wr #[.string pk, .string pv] 31)
      have B1 := hid (hB.out.alloc hB.out.size (.cells #[.string pk, .string pv] 31))
      have O1 := hid (hO.out.alloc (.cells #[.string pk, .string pv] 31))
      have Z1 : Hid (wr.heap.size < (wr.alloc (.cells #[.string pk, .string pv] 31)).heap.size) := by show _ < _; simp
      have TK := hid (show massC ((L.take (i + 1)).map (shP t)) = massC ((L.take i).map (shP t)) ++ massC [shP t (pk, pv)] by
        rw [List.take_add_one, HP.out, Option.toList_some, List.map_append, massC_append]; rfl)
      obtain ⟨w1, hw1⟩ : ∃ w1, wr.alloc (.cells #[.string pk, .string pv] 31) = w1 := ⟨_, rfl⟩
      obtain ⟨B0, hB0⟩ : ∃ B0, wr.heap.size = B0 := ⟨_, rfl⟩
      rw [hw1] at X1 B1 O1 Z1 ⊢
      rw [hB0] at X1 Z1 ⊢
      have OB := hid (show ∀ k, (Value.slice a3 i c3).ownBlock = some k → w.heap.size ≤ k ∧ k < B0 from fun k hk => by
        have := hO.out.lt k hk
        rw [hB0] at this; exact this)
      have HB0 : Hid (w.heap.size ≤ B0) := by rw [← hB0]; exact hB.out.size
      clear hw1 hB0 r1 r2
      rcases HK.out with rfl | ⟨j, hj, rfl⟩
      · have hsp : shP t (lateB, pv) = (lateB, pv) := by unfold shP; rw [if_pos rfl]
        rw [hsp] at TK
        have HLT := hid (show (lateB, pv).1 = lateB from rfl)
        clear hsp
        refine (PL _ (HL.out.call B1.out).s).out.mono ?_; rintro e w2 ⟨⟨te, pe, rfl⟩, hb2⟩
        have X2 := hid (X1.out.call hb2)
        have B2 := hid (bnext B1.out hb2)
        have O2 := hid (owns_call O1.out hb2)
        have Z2 := hid hb2.size
        obtain ⟨pk, hpk⟩ : ∃ s, lateB = s := ⟨_, rfl⟩
        rw [hpk] at X2 TK ⊢
        have z0 := X2.out.cell 0
        have z1 := X2.out.cell 1
        simp at z0 z1
        clear hb2
        go_wp2_with (at_builtin; refine wpList_append_own _ rfl _ _ 98 rfl w.heap.size 103 j0 (.agg #[.string ⟨#[]⟩, .string ⟨#[]⟩]) 2 32 Tryz.underlying98 ki kz0 kz1 kz2 rfl (by decide) _ i _ rfl (O2.out.alloc _) ⟨w2.heap.size, 0, none⟩ 1 1 [.string pk, .string pv] rfl rfl (cell_two_new w2 (.string pk) (.string pv) 103) (by simp [Value.oneCell']) (by unfold maxLen; omega) (by omega) (by have := B2.out.size; simp; omega) ?_; intro v' w3 hown3 hgrow3 _)
        have hO3 := hid (show w3.ownsRow w.heap.size 103 2 v' (i + 1) (massC ((L.take (i + 1)).map (shP t))) by rw [TK.out]; exact hown3)
        have hB3 : Hid (Below w.heap.size w w3) := by
          refine (B2.out.alloc B2.out.size _).trans ⟨hgrow3.os, hgrow3.tape, hgrow3.output, hgrow3.size, fun k' hk' => hgrow3.block k' (by have := B2.out.size; simp; omega) (fun e => ?_)⟩
          have := (OB.out k' e.symm).1
          omega
        clear hown3 hgrow3 z0 z1
        go_wp2_with fail
        go_roundw
        case rel => exact ⟨i + 1, by go_num, by omega, hO3, hB3⟩
        case measure => simp [intOf] <;> omega
      · have hsp : shP t (numB j, pv) = (zB ((j : Int) - t), pv) := by unfold shP; rw [if_neg (numB_nl j), bN_num]
        rw [hsp] at TK
        clear hsp
        have PIj := fun V hV => PI V ((j : Int) - t) (by omega) (by omega) hV
        obtain ⟨zs, hzs⟩ : ∃ s, zB ((j : Int) - t) = s := ⟨_, rfl⟩
        rw [hzs] at PIj TK
        have PAj := fun V => PA V j (by omega)
        obtain ⟨pk, hpk⟩ : ∃ s, numB j = s := ⟨_, rfl⟩
        rw [hpk] at X1 PAj ⊢
        have wj : IntKind.i64.wrap ((j : Int) - (t : Int)) = (j : Int) - (t : Int) := by rw [IntWalk.i64_in _ ⟨by omega, by omega⟩]
        clear hzs hpk
        refine (PAj _).out.mono ?_; rintro e w2 ⟨rfl, hb2⟩
        have X2 := hid (X1.out.call hb2)
        have B2 := hid (bnext B1.out hb2)
        have O2 := hid (owns_call O1.out hb2)
        have Z2 := hid (Nat.lt_of_lt_of_le Z1.out hb2.size)
        clear hb2
        go_wp2_with fail
        refine (PIj _ (HL.out.call B2.out).l).out.mono ?_; rintro e w3 ⟨rfl, hb3⟩
        have X3 := hid (X2.out.call hb3)
        have B3 := hid (bnext B2.out hb3)
        have O3 := hid (owns_call O2.out hb3)
        have Z3 := hid (Nat.lt_of_lt_of_le Z2.out hb3.size)
        have z0 := X3.out.cell 0
        have z1 := X3.out.cell 1
        have zf := X3.out.free 0
        simp at z0 z1
        have X4 := hid (X3.out.set 0 (.string zs))
        have B4 := hid (B3.out.setCell (p := ⟨B0, 0, none⟩) HB0.out (.string zs))
        have O4 := hid (O3.out.kept (grownBy_setCell' w3 B0 (.string zs)) (.inr fun e => by have := (OB.out B0 e).2; omega))
        have y0 := X4.out.cell 0
        have y1 := X4.out.cell 1
        simp at y0 y1
        clear hb3
        go_wp2_with (at_builtin; refine wpList_append_own _ rfl _ _ 98 rfl w.heap.size 103 j0 (.agg #[.string ⟨#[]⟩, .string ⟨#[]⟩]) 2 32 Tryz.underlying98 ki kz0 kz1 kz2 rfl (by decide) _ i _ rfl (O4.out.alloc _) ⟨w3.heap.size, 0, none⟩ 1 1 [.string zs, .string pv] rfl rfl (by rw [show w3.heap.size = (w3.setCell ⟨B0, 0, none⟩ (.string zs)).heap.size by simp]; exact cell_two_new (w3.setCell ⟨B0, 0, none⟩ (.string zs)) (.string zs) (.string pv) 103) (by simp [Value.oneCell']) (by unfold maxLen; omega) (by omega) (by have := B4.out.size; simp at this ⊢; omega) ?_; intro v' w5 hown3 hgrow3 _)
        have hO5 := hid (show w5.ownsRow w.heap.size 103 2 v' (i + 1) (massC ((L.take (i + 1)).map (shP t))) by rw [TK.out]; exact hown3)
        have hB5 : Hid (Below w.heap.size w w5) := by
          refine (B4.out.alloc B4.out.size _).trans ⟨hgrow3.os, hgrow3.tape, hgrow3.output, hgrow3.size, fun k' hk' => hgrow3.block k' (by have := B4.out.size; simp at this ⊢; omega) (fun e => ?_)⟩
          have := (OB.out k' e.symm).1
          omega
        clear hown3 hgrow3 z0 z1 zf y0 y1
        go_wp2_with fail
        go_roundw
        case rel => exact ⟨i + 1, by go_num, by omega, hO5, hB5⟩
        case measure => simp [intOf] <;> omega
    · obtain rfl : i = n := by omega
      have q1 : decide ((i : Int) < (i : Int)) = false := by simp
      have hO2 := hO.out
      rw [List.take_of_length_le (by rw [HN.out]; exact Nat.le_refl _)] at hO2
      have PS := hid (b_sort wr w.heap.size u5 (L.map (shP t)) i hO2 (by rw [List.length_map]; exact HN.out) (by omega) HND.out hB.out.size)
      clear hlt hO2
      go_wp2_with fail
      refine PS.out.mono ?_; rintro e w2 ⟨rfl, hm2, hb2⟩
      have y2 := hid (hB.out.trans hb2)
      have M2 := hid hm2
      have HML := hid (show (sortM (L.map (shP t))).length = i by rw [sortM_length, List.length_map]; exact HN.out)
      obtain ⟨M, hM⟩ : ∃ M, sortM (L.map (shP t)) = M := ⟨_, rfl⟩
      rw [hM] at hm2 M2 HML
      have HM := hid hM
      have HS2 := hid (Nat.le_trans hB.out.size hb2.size)
      clear hb2 hM hO hB PS
      obtain ⟨a2, c2, rfl, k1, k2, k3⟩ := hm2.ex
      rw [HML.out] at M2 k1 ⊢
      have K3 := hid k3
      clear hm2 k3
      go_wp2_with fail
      go_loopw [10, 41] (fun s10 s41 wq => ∃ j : Nat, s41 = .int .i64 (j : Nat) ∧ j ≤ i ∧ Hid (wq.ownsRow w2.heap.size 31 2 s10 j (massC (M.take j))) ∧ Hid (Below w2.heap.size w2 wq)) (fun s10 s41 wq => i - (intOf s41).toNat)
      case atStart => exact ⟨0, rfl, Nat.zero_le _, ⟨rfl, .inl ⟨rfl, rfl⟩⟩, Below.refl _ _⟩
      case round =>
        obtain ⟨j, rfl, hj, hO, hB⟩ := hrel
        by_cases hlt : j < i
        · obtain ⟨p, hp⟩ : ∃ p, M[j]? = some p := ⟨_, List.getElem?_eq_getElem (by rw [HML.out]; exact hlt)⟩
          obtain ⟨g, o, rfl, hg, m1, m2⟩ := K3.out j p hp
          obtain ⟨a3, c3, rfl⟩ := owns_ex hO.out
          obtain ⟨pk, pv⟩ := p
          dsimp only at m1 m2
          rw [Nat.mul_comm 2] at m1 m2
          have r1 := (hB.out.cell (p := ⟨g, o + j * 2, none⟩) hg).trans m1
          have r2 := (hB.out.cell (p := ⟨g, o + j * 2 + 1, none⟩) hg).trans m2
          have b1 : (0 : Int) ≤ (j : Int) := by omega
          have b2 : (j : Int) < (i : Int) := by omega
          have wi : IntKind.i64.wrap ((j : Int) + 1) = ((j + 1 : Nat) : Int) := by rw [IntWalk.i64_in _ ⟨by omega, by omega⟩]; omega
          have X1 := hid (Blk.new wr #[.string pk, .string pv] 103)
          have B1 := hid (hB.out.alloc hB.out.size (.cells #[.string pk, .string pv] 103))
          have O1 := hid (hO.out.alloc (.cells #[.string pk, .string pv] 103))
          have z0 := X1.out.cell 0
          have z1 := X1.out.cell 1
          simp at z0 z1
          have HP := hid hp
          clear hp m1 m2 hg
          go_wp2_with (at_builtin; refine wpList_append_own _ rfl _ _ 26 rfl w2.heap.size 31 i0 (.agg #[.string ⟨#[]⟩, .string ⟨#[]⟩]) 2 32 Tryz.underlying26 hi hz0 hz1 hz2 rfl (by decide) _ j _ rfl (O1.out.alloc _) ⟨wr.heap.size + 1, 0, none⟩ 1 1 [.string pk, .string pv] rfl rfl (by rw [show wr.heap.size + 1 = (wr.alloc (.cells #[.string pk, .string pv] 103)).heap.size by simp]; exact cell_two_new (wr.alloc (.cells #[.string pk, .string pv] 103)) (.string pk) (.string pv) 31) (by simp [Value.oneCell']) (by unfold maxLen; omega) (by omega) (by have := B1.out.size; simp at this ⊢; omega) ?_; intro v' w5 hown3 hgrow3 _)
          have hO5 := hid (show w5.ownsRow w2.heap.size 31 2 v' (j + 1) (massC (M.take (j + 1))) by
            rw [List.take_add_one, HP.out, Option.toList_some, massC_append]; exact hown3)
          have hB5 : Hid (Below w2.heap.size w2 w5) := by
            refine (B1.out.alloc B1.out.size _).trans ⟨hgrow3.os, hgrow3.tape, hgrow3.output, hgrow3.size, fun k' hk' => hgrow3.block k' (by have := B1.out.size; simp at this ⊢; omega) (fun e => ?_)⟩
            have := (hO.out.lt k' e.symm).1
            omega
          clear hown3 hgrow3 z0 z1
          go_wp2_with fail
          go_roundw
          case rel => exact ⟨j + 1, by go_num, by omega, hO5, hB5⟩
          case measure => simp [intOf] <;> omega
        · obtain rfl : j = i := by omega
          have q1 : decide ((j : Int) < (j : Int)) = false := by simp
          have h := hO.out
          rw [List.take_of_length_le (by rw [HML.out]; exact Nat.le_refl _)] at h
          have HR := hid (MRow.of_owns h)
          have yb := hid (y2.out.trans (hB.out.mono HS2.out))
          clear hlt h
          go_wp2_with fail
          go_ret
          exact ⟨⟨_, rfl, by rw [HM.out]; exact HR.out⟩, yb.out⟩
end Go.Proofs.YtpheklgnmbpobaaGreatDoor
namespace Go.Proofs.YtpheklgnmbpobaaGreatDoor
open Go.RowKit Go.Shelf
open Go.Lib (decDigits nDigits)
set_option linter.unusedVariables false
set_option linter.unusedSimpArgs false
theorem sortM_none : sortM [] = [] := by rw [sortM, List.mergeSort_nil]
set_option maxRecDepth 100000 in
set_option maxHeartbeats 2000000 in
theorem b_Exact (w : World) (q : ByteArray) (t : Int) (hq : q.size ≤ 100000) (hL : LayB w) :
    Calls Tryz.prog 9 #[.string q, .int .i64 t] w fun e w' => (∃ u, e = .returned (.tuple #[u, .int .i64 (beE q t)]) ∧ MRow w' u (bxR q t)) ∧ Below w.heap.size w w' := by
  have HW := hid (b_Weights w q t hq hL.l)
  have HL := hid hL
  by_cases h0 : beE q t = 0
  · have P2 := fun V v hV hLV => hid (p_Exact V v (beW q t) hV (fun x hx => beV_size h0 hx) hLV)
    have e1 : bxR q t = sortM ((exR (beW q t)).map (shP t)) := by unfold bxR; rw [if_pos h0]
    rw [beV_wsE h0] at P2
    obtain ⟨m, rfl, hm, -, hl⟩ := beV_len h0
    obtain ⟨s1, s2, s3⟩ := exR_sh (l := beW q m) (by omega)
    have PS := fun V v hV hLV => hid (b_shifted V v (exR (beW q m)) m hV s1 s2 s3 hm hLV)
    rw [h0] at HW
    rw [← e1] at PS
    rw [h0]
    clear hL h0 e1 s1 s2 s3 hl
    go_enter Tryz.func9, Tryz.ntmps9
    go_wp2_with fail
    refine HW.out.mono ?_; rintro e w1 ⟨⟨u, rfl, hu⟩, hb1⟩
    have y1 := hid hb1
    have U1 := hid hu
    obtain ⟨a, c, rfl, -, -, -⟩ := hu.openS
    clear hb1 hu
    go_wp2_with fail
    refine (P2 _ _ U1.out (HL.out.call y1.out).l).out.mono ?_; rintro e w2 ⟨⟨v, rfl, hv⟩, hb2⟩
    have y2 := hid (bnext y1.out hb2)
    have V2 := hid hv
    obtain ⟨a2, c2, rfl, -, -, -⟩ := hv.ex
    clear hb2 hv
    go_wp2_with fail
    refine (PS _ _ V2.out (HL.out.call y2.out)).out.mono ?_; rintro e w3 ⟨⟨v, rfl, hv⟩, hb3⟩
    have y3 := hid (bnext y2.out hb3)
    have V3 := hid hv
    obtain ⟨a3, c3, rfl, -, -, -⟩ := hv.ex
    clear hb3 hv
    go_wp2_with fail
    go_ret2
    exact ⟨⟨_, rfl, V3.out⟩, y3.out⟩
  · have e2 : bxR q t = [] := by unfold bxR; rw [if_neg h0]
    rw [e2]
    obtain ⟨z, hz⟩ : ∃ z, beE q t = z := ⟨_, rfl⟩
    rw [hz] at HW h0 ⊢
    have q0 : (z != 0) = true := by simpa using h0
    clear hL h0 e2 hz
    go_enter Tryz.func9, Tryz.ntmps9
    go_wp2_with fail
    refine HW.out.mono ?_; rintro e w1 ⟨⟨u, rfl, hu⟩, hb1⟩
    have y1 := hid hb1
    obtain ⟨a, c, rfl, -, -, -⟩ := hu.openS
    clear hb1 hu
    go_wp2_with fail
    go_ret2
    exact ⟨⟨_, rfl, MRow.nil _⟩, y1.out⟩
set_option maxRecDepth 100000 in
set_option maxHeartbeats 2000000 in
theorem b_Law (w : World) (q : ByteArray) (t n : Int) (hq : q.size ≤ 100000) (hL : LayB w) :
    Calls Tryz.prog 21 #[.string q, .int .i64 t, .int .i64 n] w fun e w' => (∃ u, e = .returned (.tuple #[u, .int .i64 (blE q t n)]) ∧ MRow w' u (blR q t n)) ∧ Below w.heap.size w w' := by
  have HW := hid (b_Weights w q t hq hL.l)
  have HL := hid hL
  by_cases h0 : beE q t = 0
  · have P2 := fun V v hV hLV => hid (p_Law V v (beW q t) n hV (fun x hx => beV_size h0 hx) hLV)
    have e1 : blR q t n = sortM ((lawR (beW q t) n).map (shP t)) := by
      unfold blR
      split
      · rfl
      · rename_i h; unfold lawR; rw [beV_lawE h0, if_neg h, List.map_nil, sortM_none]
    rw [beV_lawE h0] at P2
    obtain ⟨m, rfl, hm, -, hl⟩ := beV_len h0
    obtain ⟨s1, s2, s3⟩ := lawR_sh (l := beW q m) (n := n) (by omega)
    have PS := fun V v hV hLV => hid (b_shifted V v (lawR (beW q m) n) m hV s1 s2 s3 hm hLV)
    rw [h0] at HW
    rw [← e1] at PS
    obtain ⟨E, hE⟩ : ∃ E, blE q m n = E := ⟨_, rfl⟩
    rw [hE] at P2 ⊢
    clear hL h0 e1 s1 s2 s3 hl hE
    go_enter Tryz.func21, Tryz.ntmps21
    go_wp2_with fail
    refine HW.out.mono ?_; rintro e w1 ⟨⟨u, rfl, hu⟩, hb1⟩
    have y1 := hid hb1
    have U1 := hid hu
    obtain ⟨a, c, rfl, -, -, -⟩ := hu.openS
    clear hb1 hu
    go_wp2_with fail
    refine (P2 _ _ U1.out (HL.out.call y1.out).l).out.mono ?_; rintro e w2 ⟨⟨v, rfl, hv⟩, hb2⟩
    have y2 := hid (bnext y1.out hb2)
    have V2 := hid hv
    obtain ⟨a2, c2, rfl, -, -, -⟩ := hv.ex
    clear hb2 hv
    go_wp2_with fail
    refine (PS _ _ V2.out (HL.out.call y2.out)).out.mono ?_; rintro e w3 ⟨⟨v, rfl, hv⟩, hb3⟩
    have y3 := hid (bnext y2.out hb3)
    have V3 := hid hv
    obtain ⟨a3, c3, rfl, -, -, -⟩ := hv.ex
    clear hb3 hv
    go_wp2_with fail
    go_ret2
    exact ⟨⟨_, rfl, V3.out⟩, y3.out⟩
  · have e1 : blE q t n = beE q t := by unfold blE; rw [if_pos h0]
    have e2 : blR q t n = [] := by unfold blR; rw [e1, if_neg h0]
    rw [e1, e2]
    obtain ⟨z, hz⟩ : ∃ z, beE q t = z := ⟨_, rfl⟩
    rw [hz] at HW h0 ⊢
    have q0 : (z != 0) = true := by simpa using h0
    clear hL h0 e1 e2 hz
    go_enter Tryz.func21, Tryz.ntmps21
    go_wp2_with fail
    refine HW.out.mono ?_; rintro e w1 ⟨⟨u, rfl, hu⟩, hb1⟩
    have y1 := hid hb1
    obtain ⟨a, c, rfl, -, -, -⟩ := hu.openS
    clear hb1 hu
    go_wp2_with fail
    go_ret2
    exact ⟨⟨_, rfl, MRow.nil _⟩, y1.out⟩
theorem n_Add_num (w : World) (a b : Nat) (ha : nDigits a ≤ 4000) (hb : nDigits b ≤ 4000) (hab : nDigits (a + b) ≤ 4000) (hL : Lay w) :
    Calls Tryz.prog 40 #[.string (numB a), .string (numB b)] w fun e w' => e = .returned (.tuple #[.string (numB (a + b)), .int .i64 0]) ∧ Below w.heap.size w w' := by
  have h := n_Add w (numB a) (numB b) (by rw [numB_size]; omega) (by rw [numB_size]; omega) hL
  have e1 : natB ((· + ·)) (numB a) (numB b) = numB (a + b) := by
    unfold natB pairB
    rw [if_pos ⟨errN_numB ha, errN_numB hb⟩, bN_num, bN_num]
    exact if_neg (by show ¬ 4000 < nDigits (a + b); omega)
  have e2 : natE ((· + ·)) (numB a) (numB b) = 0 := by
    unfold natE pairE
    rw [errN_numB ha, errN_numB hb, bN_num, bN_num]
    rw [if_pos rfl, if_pos rfl]
    exact if_neg (by show ¬ 4000 < nDigits (a + b); omega)
  rw [e1, e2] at h
  exact h
set_option maxRecDepth 100000 in
set_option maxHeartbeats 4000000 in
theorem b_Mass (w : World) (q : ByteArray) (t k : Int) (hq : q.size ≤ 100000) (hL : Lay w) :
    Calls Tryz.prog 14 #[.string q, .int .i64 t, .int .i64 k] w fun e w' => e = .returned (.tuple #[.string (bmB q t k), .int .i64 (bmE q t k)]) ∧ Below w.heap.size w w' := by
  have HW := hid (b_Weights w q t hq hL)
  have HL := hid hL
  by_cases h0 : beE q t = 0
  · obtain ⟨m, rfl, hm, hlV, hl⟩ := beV_len h0
    obtain ⟨m', e', hk⟩ := beE_ok h0
    obtain rfl : m = m' := by omega
    have eW := (beV_W h0).1
    have hok : WsOk (beV q m) := by unfold beV; rw [Int.toNat_natCast]; exact hk.ok
    have hsum : 0 < (beV q m).sum := by unfold beV; rw [Int.toNat_natCast]; exact hk.sum
    rw [h0] at HW
    have wn : IntKind.i64.wrap (-(m : Int)) = -(m : Int) := by rw [IntWalk.i64_in _ ⟨by omega, by omega⟩]
    by_cases h1 : k < -(m : Int) ∨ (m : Int) < k
    · have e1 : bmE q m k = 2 := by unfold bmE; rw [h0, if_neg (by simp), if_pos h1]
      have e2 : bmB q m k = ⟨#[]⟩ := by unfold bmB; rw [e1, if_neg (by decide)]
      rw [e1, e2]
      rw [hl.symm.symm] at hl
      have HWL := hid hl
      by_cases h2 : k < -(m : Int)
      · have t1 : decide (k < -(m : Int)) = true := decide_eq_true h2
        clear hL h0 h1 h2 e1 e2 eW hok hsum hk e' hlV hl
        go_enter Tryz.func14, Tryz.ntmps14
        go_wp2_with fail
        refine HW.out.mono ?_; rintro e w1 ⟨⟨u, rfl, hu⟩, hb1⟩
        have y1 := hid hb1
        obtain ⟨a, c, rfl, -, -, -⟩ := hu.openS
        clear hb1 hu
        go_wp2_with fail
        go_ret2
        exact ⟨rfl, y1.out⟩
      · have t1 : decide (k < -(m : Int)) = false := decide_eq_false h2
        have t2 : decide ((m : Int) < k) = true := decide_eq_true (by omega)
        clear hL h0 h1 h2 e1 e2 eW hok hsum hk e' hlV hl
        go_enter Tryz.func14, Tryz.ntmps14
        go_wp2_with fail
        refine HW.out.mono ?_; rintro e w1 ⟨⟨u, rfl, hu⟩, hb1⟩
        have y1 := hid hb1
        obtain ⟨a, c, rfl, -, -, -⟩ := hu.openS
        clear hb1 hu
        go_wp2_with fail
        go_ret2
        exact ⟨rfl, y1.out⟩
    · have e1 : bmE q m k = 0 := by unfold bmE; rw [h0, if_neg (by simp), if_neg h1]
      have e2 : bmB q m k = shB ((beV q m).getD (k + m).toNat 0) (beV q m).sum := by unfold bmB; rw [if_pos e1]
      rw [e1, e2]
      obtain ⟨j, hj⟩ : ∃ j : Nat, k + (m : Int) = (j : Nat) := ⟨(k + m).toNat, by omega⟩
      have hj2 : j < 2 * m + 1 := by omega
      have t1 : decide (k < -(m : Int)) = false := decide_eq_false (by omega)
      have t2 : decide ((m : Int) < k) = false := decide_eq_false (by omega)
      have wj : IntKind.i64.wrap (k + (m : Int)) = (j : Int) := by rw [hj, IntWalk.i64_in _ ⟨by omega, by omega⟩]
      have wj' : IntKind.i64.wrap (k + (m : Int)) = k + (m : Int) := by rw [IntWalk.i64_in _ ⟨by omega, by omega⟩]
      rw [hj, Int.toNat_natCast]
      obtain ⟨ws, hws⟩ : ∃ ws, beV q m = ws := ⟨_, rfl⟩
      rw [hws] at hlV eW hok hsum ⊢
      have PA := fun V i x (hx : ws[i]? = some x) hV => hid (by
        have n1 := hok.pre i
        have n2 := hok.pre (i + 1)
        have n3 := hok.dig x (List.mem_of_getElem? hx)
        rw [pre_succ hx] at n2
        have h := n_Add_num V (pre ws i) x (by omega) (by omega) (by omega) hV
        rw [← pre_succ hx] at h
        exact h)
      obtain ⟨xj, hxj⟩ : ∃ x, ws[j]? = some x := ⟨_, List.getElem?_eq_getElem (by omega)⟩
      have hgd : ws.getD j 0 = xj := by rw [List.getD_eq_getElem?_getD, hxj]; rfl
      have PM := fun V hV => hid (pk_make V xj ws.sum (by have := hok.dig xj (List.mem_of_getElem? hxj); omega) (by have := hok.sum; omega) (by omega) hV)
      have hoe : outE (qmk false xj ws.sum) = 0 := by
        refine outE_fits ?_
        obtain ⟨a1, a2⟩ := qmk_le (a := xj) (b := ws.sum) (by omega)
        intro ho
        rcases ho with h | h
        · have := nDigits_mono a1; have := hok.dig xj (List.mem_of_getElem? hxj); omega
        · have := nDigits_mono a2; have := hok.sum; omega
      rw [hoe] at PM
      rw [hgd]
      have HALL := hid (pre_all (ws := ws) (i := 2 * m + 1) (by omega))
      have HX := hid hxj
      obtain ⟨R, hR⟩ : ∃ R, shB xj ws.sum = R := ⟨_, rfl⟩
      rw [hR] at PM ⊢
      have HGET : Hid (∀ i, i < 2 * m + 1 → ∃ x, ws[i]? = some x) := fun i hi => ⟨_, List.getElem?_eq_getElem (by omega)⟩
      rw [eW] at HW
      have hwl : (ws.map numB).length = 2 * m + 1 := by rw [List.length_map, hlV]
      have HWL := hid hwl
      obtain ⟨N, hN⟩ : ∃ N, 2 * m + 1 = N := ⟨_, rfl⟩
      rw [hN] at hj2 HALL HGET HWL
      have b1 : (0 : Int) ≤ (j : Int) := by omega
      have b2 : (j : Int) < (N : Int) := by omega
      have HNB := hid (show N ≤ 40 by omega)
      have e0 : (⟨#[48]⟩ : ByteArray) = numB (pre ws 0) := by rw [pre_zero, numB_zero]
      have E0 := hid e0
      clear hL h0 h1 e1 e2 eW hok hsum hk e' hlV hl hws hxj hgd hoe hR hwl hN e0 hj
      go_enter Tryz.func14, Tryz.ntmps14
      go_wp2_with fail
      refine HW.out.mono ?_; rintro e w1 ⟨⟨u, rfl, hu⟩, hb1⟩
      have y1 := hid hb1
      have U1 := hid hu
      obtain ⟨a, c, rfl, k1, k2, -⟩ := hu.openS
      rw [HWL.out] at U1 k1 ⊢
      clear hb1 hu
      go_wp2_with fail
      go_loopw [10, 35] (fun s10 s35 wr => ∃ i : Nat, s10 = .string (numB (pre ws i)) ∧ s35 = .int .i64 (i : Nat) ∧ i ≤ N ∧ Hid (Below w1.heap.size w1 wr)) (fun s10 s35 wr => N - (intOf s35).toNat)
      case atStart => exact ⟨0, by rw [← E0.out], rfl, Nat.zero_le _, Below.refl _ _⟩
      case round =>
        obtain ⟨i, rfl, rfl, hi, hB⟩ := hrel
        have yr := hid (bnext y1.out hB.out)
        by_cases hlt : i < N
        · obtain ⟨x, hx⟩ := HGET.out i hlt
          obtain ⟨g, o, rfl, hg, hc⟩ := U1.out.at (strs_get (show (ws.map numB)[i]? = some (numB x) by rw [List.getElem?_map, hx]; rfl))
          have hc2 := (hB.out.cell (p := ⟨g, o + i, none⟩) hg).trans hc
          have PX := fun V hV => PA V i x hx hV
          obtain ⟨S0, hS0⟩ : ∃ s, numB (pre ws i) = s := ⟨_, rfl⟩
          obtain ⟨X0, hX0⟩ : ∃ s, numB x = s := ⟨_, rfl⟩
          rw [hX0] at hc2
          simp only [hS0, hX0] at PX
          rw [hS0]
          have hb := HNB.out
          have b3 : (0 : Int) ≤ (i : Int) := by omega
          have b4 : (i : Int) < (N : Int) := by omega
          have wi : IntKind.i64.wrap ((i : Int) + 1) = ((i + 1 : Nat) : Int) := by rw [IntWalk.i64_in _ ⟨by omega, by omega⟩]; omega
          clear hx hg hc hS0 hX0 hb
          go_wp2_with fail
          refine (PX _ (HL.out.call yr.out)).out.mono ?_; rintro e w2 ⟨rfl, hb2⟩
          have B2 := hid (bnext hB.out hb2)
          clear hb2
          go_wp2_with fail
          go_roundw
          case rel => exact ⟨i + 1, rfl, by go_num, by omega, B2⟩
          case measure => simp [intOf] <;> omega
        · obtain rfl : i = N := by omega
          have q1 : decide ((i : Int) < (i : Int)) = false := by simp
          obtain ⟨g, o, rfl, hg, hc⟩ := U1.out.at (strs_get (show (ws.map numB)[j]? = some (numB xj) by rw [List.getElem?_map, HX.out]; rfl))
          have hc2 := (hB.out.cell (p := ⟨g, o + j, none⟩) hg).trans hc
          rw [HALL.out]
          obtain ⟨S0, hS0⟩ : ∃ s, numB ws.sum = s := ⟨_, rfl⟩
          obtain ⟨X0, hX0⟩ : ∃ s, numB xj = s := ⟨_, rfl⟩
          rw [hX0] at hc2
          simp only [hS0, hX0] at PM
          rw [hS0]
          clear hlt hg hc hS0 hX0
          go_wp2_with fail
          refine (PM _ (HL.out.call yr.out)).out.mono ?_; rintro e w2 ⟨rfl, hb2⟩
          have y2 := hid (bnext yr.out hb2)
          clear hb2
          go_wp2_with fail
          go_ret2
          exact ⟨rfl, y2.out⟩
  · have e1 : bmE q t k = beE q t := by unfold bmE; rw [if_pos h0]
    have e2 : bmB q t k = ⟨#[]⟩ := by unfold bmB; rw [e1, if_neg h0]
    rw [e1, e2]
    obtain ⟨z, hz⟩ : ∃ z, beE q t = z := ⟨_, rfl⟩
    rw [hz] at HW h0 ⊢
    have q0 : (z != 0) = true := by simpa using h0
    clear hL h0 e1 e2 hz
    go_enter Tryz.func14, Tryz.ntmps14
    go_wp2_with fail
    refine HW.out.mono ?_; rintro e w1 ⟨⟨u, rfl, hu⟩, hb1⟩
    have y1 := hid hb1
    obtain ⟨a, c, rfl, -, -, -⟩ := hu.openS
    clear hb1 hu
    go_wp2_with fail
    go_ret2
    exact ⟨rfl, y1.out⟩
end Go.Proofs.YtpheklgnmbpobaaGreatDoor
namespace Go.Proofs.YtpheklgnmbpobaaGreatDoor
open Go.RowKit
open Go.Lib (decDigits nDigits)
set_option linter.unusedVariables false
set_option linter.unusedSimpArgs false
section
variable {q : ByteArray} {m n : Nat} (h : beE q m = 0) (hn : n ≤ 256)
include h hn
theorem bl_E : blE q m n = 0 := by unfold blE; rw [h, if_neg (by simp), if_neg (by omega)]
theorem bl_is : blR q m n = sortM ((lawP (beV q m) (2 ^ n) (2 * m + 1)).map (shP m)) := by
  obtain ⟨m', e', hm, hlV, hl⟩ := beV_len h
  obtain rfl : m = m' := by omega
  unfold blR
  rw [if_pos (bl_E h hn)]
  unfold lawR
  rw [if_pos ((beV_lawE h n).trans (bl_E h hn)), sortM_map (lawP_ShOk (by omega)) (reads_lawM (H := Unit) _ _ _).nd, (beV_W h).2, hl, Int.toNat_natCast]
theorem bl_len : (blR q m n).length = (lawP (beV q m) (2 ^ n) (2 * m + 1)).length := by
  rw [bl_is h hn, sortM_length, List.length_map]
theorem bl_has {i : Nat} (hi : i < 2 * m + 1) (hc : cnt (beV q m) (2 ^ n) i ≠ 0) : hasM (blR q m n) (zB ((i : Int) - m), shB (cnt (beV q m) (2 ^ n) i) (2 ^ n)) = true := by
  rw [hasM_iff, bl_is h hn, sortM_mem]
  refine List.mem_map.2 ⟨(numB i, shB (cnt (beV q m) (2 ^ n) i) (2 ^ n)), ?_, ?_⟩
  · have := lawP_has hi hc
    rw [hasM_iff, sortM_mem] at this
    exact this
  · unfold shP
    rw [if_neg (numB_nl i), bN_num]
theorem bl_last (hc : 2 ^ n - lwS (beV q m) (2 ^ n) (2 * m + 1) ≠ 0) : hasM (blR q m n) (lateB, shB (2 ^ n - lwS (beV q m) (2 ^ n) (2 * m + 1)) (2 ^ n)) = true ∧ (lawP (beV q m) (2 ^ n) (2 * m + 1)).length = (lawL (beV q m) (2 ^ n) (2 * m + 1)).length + 1 := by
  obtain ⟨h1, h2⟩ := lawP_last (N := 2 * m + 1) hc
  refine ⟨?_, h2⟩
  rw [hasM_iff, bl_is h hn, sortM_mem]
  rw [hasM_iff, sortM_mem] at h1
  exact List.mem_map.2 ⟨_, h1, by unfold shP; rw [if_pos rfl]⟩
theorem bl_strict {i : Nat} {p r : ByteArray × ByteArray} (hp : (blR q m n)[i]? = some p) (hr : (blR q m n)[i + 1]? = some r) : ¬ keyL r ≤ keyL p := by
  obtain ⟨m', e', hm, hlV, hl⟩ := beV_len h
  obtain rfl : m = m' := by omega
  rw [bl_is h hn] at hp hr
  exact sortM_strict (shP_key (lawP_ShOk (by omega)) (reads_lawM (H := Unit) _ _ _).nd) hp hr
theorem bt_is : btR q m n = shB (2 ^ n - lwS (beV q m) (2 ^ n) (2 * m + 1)) (2 ^ n) := by
  obtain ⟨m', e', hm, hlV, hl⟩ := beV_len h
  obtain rfl : m = m' := by omega
  unfold btR
  rw [if_pos (bl_E h hn)]
  unfold lateR
  rw [if_pos ((beV_lawE h n).trans (bl_E h hn)), (beV_W h).2, hl, Int.toNat_natCast]
end
end Go.Proofs.YtpheklgnmbpobaaGreatDoor
namespace Go.Proofs.YtpheklgnmbpobaaGreatDoor
open Go.RowKit
theorem below_grown {w w' : World} (h : Below w.heap.size w w') (row : Option Nat) : w.grownBy w' row := ⟨h.os, h.tape, h.output, h.size, fun k hk _ => h.block k hk⟩
end Go.Proofs.YtpheklgnmbpobaaGreatDoor
namespace Go.Proofs.YtpheklgnmbpobaaGreatDoor
open Go.RowKit Go.Shelf
open Go.Lib (decDigits nDigits)
set_option linter.unusedVariables false
set_option linter.unusedSimpArgs false
set_option maxRecDepth 100000 in
set_option maxHeartbeats 1000000 in
theorem r4_BitsP (w : World) (s : ByteArray) (hs : s.size ≤ 100000000) :
    Calls Tryz.prog 113 #[.string s] w fun e w' => e = .returned (.int .i64 (chkE s)) ∧ w = w' := by
  have HC := hid (r3_Check w s (by omega))
  by_cases hb : bitB s = true
  · have e0 : bitE s = 0 := if_pos hb
    rw [e0] at HC
    by_cases hl : 256 < s.size
    · have e1 : chkE s = 4 := by rw [chkE, if_pos hb, if_pos hl]
      have q0 : decide ((256 : Int) < (s.size : Int)) = true := by simp; omega
      rw [e1]
      clear hb hl e0 e1
      go_enter Tryz.func113, Tryz.ntmps113
      go_wp2_with fail
      refine HC.out.mono ?_; rintro e w1 ⟨rfl, rfl⟩
      go_wp2_with fail
      go_ret
      exact ⟨rfl, rfl⟩
    · have e1 : chkE s = 0 := by rw [chkE, if_pos hb, if_neg hl]
      have q0 : decide ((256 : Int) < (s.size : Int)) = false := by simp; omega
      rw [e1]
      clear hb hl e0 e1
      go_enter Tryz.func113, Tryz.ntmps113
      go_wp2_with fail
      refine HC.out.mono ?_; rintro e w1 ⟨rfl, rfl⟩
      go_wp2_with fail
      go_ret
      exact ⟨rfl, rfl⟩
  · have e0 : bitE s = 3 := if_neg hb
    have e1 : chkE s = 3 := if_neg hb
    rw [e0] at HC
    rw [e1]
    clear hb e0 e1
    go_enter Tryz.func113, Tryz.ntmps113
    go_wp2_with fail
    refine HC.out.mono ?_; rintro e w1 ⟨rfl, rfl⟩
    go_wp2_with fail
    go_ret
    exact ⟨rfl, rfl⟩
theorem wtE_cons {b : ByteArray} {r : List ByteArray} : (errN b.data.toList ≠ 0 → wtE (b :: r) = errN b.data.toList) ∧ (errN b.data.toList = 0 → 3800 < b.size → wtE (b :: r) = 5) ∧ (errN b.data.toList = 0 → ¬ 3800 < b.size → wtE (b :: r) = wtE r) :=
  ⟨fun h => by rw [wtE, if_pos h], fun h h2 => by rw [wtE, if_neg (by simpa using h), if_pos h2], fun h h2 => by rw [wtE, if_neg (by simpa using h), if_neg h2]⟩
set_option maxRecDepth 100000 in
set_option maxHeartbeats 2000000 in
theorem r5_Check (w : World) (v : Value) (l : List ByteArray) (hv : Row w v (strs l)) (hl : ∀ x ∈ l, x.size ≤ 1000000) :
    Calls Tryz.prog 112 #[v] w fun e w' => e = .returned (.int .i64 (wsE l)) ∧ w = w' := by
  have HV := hid hv
  obtain ⟨a, c, rfl, q1, q2, -⟩ := hv.openS
  obtain ⟨N, hN⟩ : ∃ N, l.length = N := ⟨_, rfl⟩
  have HN := hid hN; have HL := hid hl
  rw [hN] at HV q1 ⊢
  by_cases h0 : N = 0
  · subst h0
    have e : Hid (wsE l = 2) := by show wsE l = 2; rw [wsE, if_pos (.inl hN)]
    rw [e.out]
    clear hv hN hl e
    go_enter Tryz.func112, Tryz.ntmps112
    go_wp2_with fail
    go_ret
    exact ⟨rfl, rfl⟩
  · have t0 : ((N : Int) == 0) = false := by simp; omega
    by_cases h1 : 64 < N
    · have e : Hid (wsE l = 2) := by show wsE l = 2; rw [wsE, if_pos (.inr (by omega))]
      have t1 : decide ((64 : Int) < (N : Int)) = true := by simp; omega
      rw [e.out]
      clear hv hN hl e h0 h1
      go_enter Tryz.func112, Tryz.ntmps112
      go_wp2_with fail
      go_ret
      exact ⟨rfl, rfl⟩
    · have t1 : decide ((64 : Int) < (N : Int)) = false := by simp; omega
      have hE : Hid (wsE l = if wtE l ≠ 0 then wtE l else if l.any nzB = true then 0 else 6) := by show wsE l = _; rw [wsE, if_neg (by omega)]; rfl
      clear hv hN hl
      go_enter Tryz.func112, Tryz.ntmps112
      go_wp2_with fail
      go_loop [3, 4] (fun s3 s4 => ∃ i : Nat, s3 = .bool ((l.take i).any nzB) ∧ s4 = .int .i64 (i : Nat) ∧ i ≤ N ∧ Hid (wtE l = wtE (l.drop i))) (fun s3 s4 => N - (intOf s4).toNat)
      case atStart => exact ⟨0, rfl, rfl, Nat.zero_le _, rfl⟩
      case round =>
        obtain ⟨i, rfl, rfl, hi, hI⟩ := hrel
        by_cases hlt : i < N
        · obtain ⟨x, hx⟩ : ∃ x, l[i]? = some x := ⟨_, List.getElem?_eq_getElem (by rw [HN.out]; exact hlt)⟩
          have hxs := HL.out x (List.mem_of_getElem? hx)
          have PC := fun V => hid (r1_Check V x (by omega))
          obtain ⟨g, o, rfl, hg, hc⟩ := HV.out.at (strs_get hx)
          have hd : l.drop i = x :: l.drop (i + 1) := by
            obtain ⟨h, rfl⟩ := List.getElem?_eq_some_iff.1 hx
            exact List.drop_eq_getElem_cons h
          obtain ⟨c1, c2, c3⟩ := wtE_cons (b := x) (r := l.drop (i + 1))
          rw [← hd, ← hI.out] at c1 c2 c3
          have b1 : (0 : Int) ≤ (i : Int) := by omega
          have b2 : (i : Int) < (N : Int) := by omega
          have wi : IntKind.i64.wrap ((i : Int) + 1) = ((i + 1 : Nat) : Int) := by rw [IntWalk.i64_in _ ⟨by omega, by omega⟩]; omega
          by_cases he : errN x.data.toList = 0
          · rw [he] at PC
            by_cases h3 : 3800 < x.size
            · have t3 : decide ((3800 : Int) < (x.size : Int)) = true := by simp; omega
              have eE := hid (show wsE l = 5 by rw [hE.out, c2 he h3]; rfl)
              clear hx hxs hd c1 c2 c3 he h3 hg
              go_wp2_with fail
              refine (PC _).out.mono ?_; rintro e w1 ⟨rfl, rfl⟩
              go_wp2_with fail
              go_ret
              exact ⟨by rw [eE.out]; rfl, rfl⟩
            · have t3 : decide ((3800 : Int) < (x.size : Int)) = false := by simp; omega
              have hW := hid (c3 he h3)
              have hT : Hid (l.take (i + 1) = l.take i ++ [x]) := by show l.take (i + 1) = _; rw [List.take_add_one, hx]; rfl
              obtain ⟨so, hso⟩ : ∃ b, (l.take i).any nzB = b := ⟨_, rfl⟩
              have HSO := hid hso
              rw [hso]
              have hfin : Hid ((l.take (i + 1)).any nzB = (so || nzB x)) := by show _ = _; rw [hT.out, List.any_append, hso]; simp
              have tz : (!(x.toList == [48])) = nzB x := by
                unfold nzB
                by_cases h : x = ⟨#[48]⟩
                · subst h; rw [Lib.toList_data]; rfl
                · rw [ne_lit h, decide_eq_true h]; rfl
              obtain ⟨bz, hbz⟩ : ∃ b, nzB x = b := ⟨_, rfl⟩
              have tz2 : (x.toList == [48]) = !bz := by rw [← hbz, ← tz]; simp
              have HBZ := hid hbz
              clear hx hxs hd c1 c2 c3 he h3 hg hso hbz tz
              cases so
              all_goals
                cases bz
                all_goals
                  go_wp2_with fail
                  refine (PC _).out.mono ?_; rintro e w1 ⟨rfl, rfl⟩
                  go_wp2_with fail
                  go_round
                  case rel => exact ⟨i + 1, by rw [hfin.out, HBZ.out]; rfl, by go_num, by omega, hW⟩
                  case measure => simp [intOf] <;> omega
          · have eE := hid (show wsE l = errN x.data.toList by rw [hE.out, c1 he, if_pos he])
            obtain ⟨z, hz⟩ : ∃ z, errN x.data.toList = z := ⟨_, rfl⟩
            rw [hz] at PC he eE
            have q0 : (z != 0) = true := by simpa using he
            clear hx hxs hd c1 c2 c3 he hg hz
            go_wp2_with fail
            refine (PC _).out.mono ?_; rintro e w1 ⟨rfl, rfl⟩
            go_wp2_with fail
            go_ret
            exact ⟨by rw [eE.out]; rfl, rfl⟩
        · obtain rfl : i = N := by omega
          have q1 : decide ((i : Int) < (i : Int)) = false := by simp
          have hw : wtE l = 0 := by rw [hI.out, List.drop_of_length_le (by rw [HN.out]; exact Nat.le_refl _)]; rfl
          have ht : l.take i = l := List.take_of_length_le (by rw [HN.out]; exact Nat.le_refl _)
          rw [ht]
          obtain ⟨so, hso⟩ : ∃ b, l.any nzB = b := ⟨_, rfl⟩
          have eE := hid (show wsE l = if so = true then 0 else 6 by rw [hE.out, if_neg (by rw [hw]; simp), hso])
          rw [hso]
          clear hlt hw ht hso
          cases so
          all_goals
            go_wp2_with fail
            go_ret
            exact ⟨by rw [eE.out]; rfl, rfl⟩
end Go.Proofs.YtpheklgnmbpobaaGreatDoor
