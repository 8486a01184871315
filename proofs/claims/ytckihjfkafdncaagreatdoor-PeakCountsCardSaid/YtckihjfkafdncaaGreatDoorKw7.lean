/- Texts that the proof rests on, merged: R2a, R2m, R1o, R1c, R3a, Pc2, Sh3, Rep, Sd, Tt, NpG, Gt0, Zs, Cf, Fw, Bg, Rp10, PcB, Pn6, Rp13, Fd4, Gnp, Fd6, Fd8, Fn0, Sh6, Sm, Gd0, Gl0, Tb. -/
import Derived.Test.YtckihjfkafdncaaGreatDoorKw6
import Derived.Laws.Concat
import Derived.Shelf.Bits.Mul64
import Derived.Ground.NamesProg
import Derived.Test.YtckihjfkafdncaaGreatDoorProg
import Derived.Laws.CopyOwn
import Derived.Deep.DeepCutAuto
import Derived.RegionTactic
import Derived.Deep.LoopGhost
import Derived.WalkLawsBesides
import Derived.Deep.AppendLies
import Derived.Sort.Walk0
import Derived.Shelf.SlSortCmp.WholeK
import Derived.Shelf.SlGeneric
import Derived.Shelf.Small.Bits
import Derived.Ground.SlsfProg
import Derived.Sort.OwnSortedInts
import Derived.Maps.AppendAt
import Derived.RangeFuncBox
set_option linter.unusedVariables false
set_option linter.unusedSimpArgs false
set_option linter.unusedSectionVars false
set_option maxRecDepth 100000
set_option maxHeartbeats 8000000
namespace Go.Proofs.YtckihjfkafdncaaGreatDoor
open Go.RowKit
open Go.Lib (decDigits nDigits)
theorem r2_one (w : World) : Calls Tryz.prog 101 #[] w fun e w' => RetN .i64 1 e w' ∧ Below w.heap.size w w' := by
 have H1 := hid (isN_one w)
 go_enter Tryz.func101, Tryz.ntmps101
 go_wp2_with fail
 go_ret
 exact ⟨⟨_, rfl, H1.out⟩, (Below.refl _ _).alloc (Nat.le_refl _) _⟩
theorem r2_Reduce (w : World) (m : Bool) (v u : Value) (n d : Nat) (hn : IsN .i64 w v n) (hd : IsN .i64 w u d) (h0 : 0 < d) (hln : (limbs n).length ≤ 1000000) (hld : (limbs d).length ≤ 1000000) :
 Calls Tryz.prog 109 #[.bool m, v, u] w fun e w' => RetQ .i64 (qmk m n d) e w' ∧ Below w.heap.size w w' := by
 have HN := hid hn; have HD := hid hd
 obtain ⟨a1, c1, rfl, _⟩ := hn.openI
 obtain ⟨a2, c2, rfl, _⟩ := hd.openI
 clear hn hd
 rcases Nat.eq_zero_or_pos n with rfl | hp
 ·have hl : (limbs 0).length = 0 := by rw [limbs_zero]; rfl
  rw [hl] at HN ⊢
  have hq := hid (qmk_zero m d)
  rw [hq.out]
  clear hl
  go_enter Tryz.func109, Tryz.ntmps109
  go_wp2_with fail
  refine (r2_one _).mono ?_; rintro e w1 ⟨⟨v1, rfl, hv1⟩, hb1⟩
  obtain ⟨a3, c3, rfl, _⟩ := hv1.openI
  have HV := hid hv1
  have HB := hid (show Blk w1 w.heap.size #[.bool false, .slice none 0 0, .slice none 0 0] 87 from (Blk.new w _ _).call hb1)
  have d0 := HB.out.cell 0
  have d1 := HB.out.cell 1
  have d2 := HB.out.cell 2
  have e0 := HB.out.free 0
  have e1 := HB.out.free 1
  have e2 := HB.out.free 2
  have HBB := hid hb1
  clear hb1 hv1
  simp at d0 d1 d2
  go_wp2_with fail
  obtain ⟨s1, s2⟩ := set3 HB.out false none a3 0 0 (limbs 1).length c3
  have f0 := s2.cell 0
  have f1 := s2.cell 1
  have f2 := s2.cell 2
  simp at f0 f1 f2
  refine bodyPost_ret (v := .agg #[.bool false, .slice none 0 0, .slice a3 (limbs 1).length c3]) (by simp [results, Tryz.results109, go_sem, f0, f1, f2]) rfl ⟨⟨_, rfl, IsQ.zero_ (s1 _ _ _ (IsN.zero _ _)) (s1 _ _ _ HV.out)⟩, ?_⟩
  exact (((((Below.refl _ _).alloc (Nat.le_refl _) _).trans (HBB.out.mono (by simp))).setCell (Nat.le_refl _) _).setCell (Nat.le_refl _) _).setCell (Nat.le_refl _) _
 ·have hpos : 0 < (limbs n).length := List.length_pos_iff.2 (fun e => by have := limbs_nil.1 e; omega)
  have q0 : (((limbs n).length : Int) == 0) = false := beq_eq_false_iff_ne.2 (by omega)
  obtain ⟨g, hg⟩ : ∃ g, Nat.gcd n d = g := ⟨_, rfl⟩
  have hgp : 0 < g := hg ▸ Nat.gcd_pos_of_pos_left d hp
  have HG := hid hg; have HGP := hid hgp; have HP := hid hp; have H0 := hid h0; have HLN := hid hln; have HLD := hid hld
  clear hg hgp hp h0 hln hld hpos
  go_enter Tryz.func109, Tryz.ntmps109
  go_wp2_with fail
  refine (r1_Common _ _ _ n d (HN.out.call ((Below.refl _ _).alloc (Nat.le_refl _) _)) (HD.out.call ((Below.refl _ _).alloc (Nat.le_refl _) _)) HLN.out HLD.out).mono ?_
  rintro e w1 ⟨⟨v1, rfl, hv1⟩, hb1⟩
  rw [HG.out] at hv1
  have HB1 := hid (show Blk w1 w.heap.size #[.bool false, .slice none 0 0, .slice none 0 0] 87 from (Blk.new w _ _).call hb1)
  have B1 := hid (((Below.refl w.heap.size w).alloc (Nat.le_refl _) (.cells #[.bool false, .slice none 0 0, .slice none 0 0] 87)).trans (hb1.mono (by simp)))
  have N1 := hid (HN.out.call B1.out); have D1 := hid (HD.out.call B1.out); have G1 := hid hv1
  clear hb1 hv1
  go_wp2_with fail
  refine (r1_Divide _ _ _ n g N1.out G1.out HGP.out HLN.out).mono ?_
  rintro e w2 ⟨⟨v2, v3, rfl, hv2, -⟩, hb2⟩
  have HB2 := hid (HB1.out.call hb2); have B2 := hid (bnext B1.out hb2); have D2 := hid (D1.out.call hb2); have G2 := hid (G1.out.call hb2); have V2 := hid hv2
  clear hb2 hv2
  go_wp2_with fail
  refine (r1_Divide _ _ _ d g D2.out G2.out HGP.out HLD.out).mono ?_
  rintro e w3 ⟨⟨v4, v5, rfl, hv4, -⟩, hb3⟩
  have HB3 := hid (HB2.out.call hb3); have B3 := hid (bnext B2.out hb3); have W2 := hid (V2.out.call hb3); have W4 := hid hv4
  clear hb3 hv4
  obtain ⟨a3, c3, rfl, _⟩ := W2.out.openI
  obtain ⟨a4, c4, rfl, _⟩ := W4.out.openI
  have d0 := HB3.out.cell 0
  have d1 := HB3.out.cell 1
  have d2 := HB3.out.cell 2
  have e0 := HB3.out.free 0
  have e1 := HB3.out.free 1
  have e2 := HB3.out.free 2
  simp at d0 d1 d2
  go_wp2_with fail
  obtain ⟨s1, s2⟩ := set3 HB3.out m a3 a4 (limbs (n / g)).length c3 (limbs (d / g)).length c4
  have f0 := s2.cell 0
  have f1 := s2.cell 1
  have f2 := s2.cell 2
  simp at f0 f1 f2
  refine bodyPost_ret (v := .agg #[.bool m, .slice a3 (limbs (n / g)).length c3, .slice a4 (limbs (d / g)).length c4]) (by simp [results, Tryz.results109, go_sem, f0, f1, f2]) rfl ⟨⟨_, rfl, IsQ.mk' HP.out H0.out (HG.out ▸ s1 _ _ _ W2.out) (HG.out ▸ s1 _ _ _ W4.out)⟩, ?_⟩
  exact ((B3.out.setCell (Nat.le_refl _) _).setCell (Nat.le_refl _) _).setCell (Nat.le_refl _) _
theorem num_limbs {n : Nat} (h : nDigits n ≤ 4000) : (limbs n).length ≤ 1000000 := by
 exact Nat.le_trans (limbs_of_digits h) (by omega)
theorem qmk_le {a b : Nat} (h0 : b ≠ 0) : (qmk false a b).num.natAbs ≤ a ∧ (qmk false a b).den ≤ b := by
 unfold qmk
 constructor
 ·rw [Rat.num_mkRat, if_neg h0]
  refine Nat.le_trans (Int.natAbs_ediv_le_natAbs _ _) ?_
  rw [sgn_natAbs]; exact Nat.le_refl _
 ·rw [Rat.den_mkRat, if_neg h0]
  exact Nat.div_le_self _ _
theorem r2_Make_num (w : World) (a b : Nat) (ha : nDigits a ≤ 4000) (hb : nDigits b ≤ 4000) (h0 : b ≠ 0) :
 Calls Tryz.prog 94 #[.string (numB a), .string (numB b)] w fun e w' => e = .returned (.tuple #[.string (outB (qmk false a b)), .int .i64 (outE (qmk false a b))]) ∧ Below w.heap.size w w' := by
 have sa := numB_size a
 have sb := numB_size b
 have e1 : iM (numB a) = false := by
  unfold iM Lib.hasPrefix
  rw [numB_list]
  exact minus_dec a
 have e2 : iD (numB a) = numB a := iD_plain e1
 have e3 : iB (numB a) = true := by
  unfold iB
  rw [e1, e2, fB_num]; rfl
 have HI := fun V => hid (r2_integer V (numB a) (by omega))
 rw [e1, e2, e3] at HI
 have HC := fun V => hid (r1_Check V (numB b) (by omega))
 rw [errN_numB hb] at HC
 have HA := fun V => hid (r1_Read_num V a (by omega))
 have HB := fun V => hid (r1_Read_num V b (by omega))
 have la := num_limbs ha
 have lb := num_limbs hb
 have HR := fun V v u hn hd => hid (r2_Reduce V false v u a b hn hd (by omega) la lb)
 have dq : (limbs (qmk false a b).num.natAbs).length ≤ 1000000 ∧ (limbs (qmk false a b).den).length ≤ 1000000 := by
  obtain ⟨k1, k2⟩ := qmk_le (a := a) h0
  have := nDigits_mono k1
  have := nDigits_mono k2
  exact ⟨num_limbs (by omega), num_limbs (by omega)⟩
 have HW := fun V v h => hid (r2_Write V v (qmk false a b) h dq.1 dq.2)
 have hne := ne_lit (show ¬ numB b = ⟨[48].toArray⟩ from by rw [← numB_zero]; exact numB_ne h0)
 have q0 : decide ((4000 : Int) < ((numB a).size : Int)) = false := by simp; omega
 obtain ⟨oB, hB⟩ : ∃ x, outB (qmk false a b) = x := ⟨_, rfl⟩
 obtain ⟨oE, hE⟩ : ∃ x, outE (qmk false a b) = x := ⟨_, rfl⟩
 rw [hB, hE] at HW
 rw [hB, hE]
 generalize numB a = A at *
 generalize numB b = B at *
 clear e1 e2 e3 hB hE la lb dq sa sb ha hb h0
 go_enter Tryz.func94, Tryz.ntmps94
 go_wp2_with fail
 refine (HI _).out.mono ?_; rintro e w1 ⟨rfl, rfl⟩
 go_wp2_with fail
 refine (HC _).out.mono ?_; rintro e w2 ⟨rfl, rfl⟩
 go_wp2_with fail
 refine (HA _).out.mono ?_; rintro e w3 ⟨⟨v3, rfl, hv3⟩, hb3⟩
 have y3 := hid hb3; have N3 := hid hv3; clear hb3 hv3
 go_wp2_with fail
 refine (HB _).out.mono ?_; rintro e w4 ⟨⟨v4, rfl, hv4⟩, hb4⟩
 have y4 := hid (bnext y3.out hb4); have N4 := hid hv4; have M4 := hid (N3.out.call hb4); clear hb4 hv4
 go_wp2_with fail
 refine (HR _ _ _ M4.out N4.out).out.mono ?_; rintro e w5 ⟨⟨v5, rfl, hv5⟩, hb5⟩
 have y5 := hid (bnext y4.out hb5); have N5 := hid hv5; clear hb5
 obtain ⟨N, D, rfl, -, -⟩ := hv5.ex
 clear hv5
 go_wp2_with fail
 refine (HW _ _ N5.out).out.mono ?_; rintro e w6 ⟨rfl, hb6⟩
 have y6 := hid (bnext y5.out hb6); clear hb6
 go_wp2_with fail
 go_ret2
 exact ⟨rfl, y6.out⟩
theorem conv_d0 (w : World) : (convert 21 9 (.int .i32 48)).run Tryz.prog w = .ok (.string ⟨#[48]⟩) w := by kernel_rfl
theorem conv_d1 (w : World) : (convert 21 9 (.int .i32 49)).run Tryz.prog w = .ok (.string ⟨#[49]⟩) w := by kernel_rfl
theorem conv_d2 (w : World) : (convert 21 9 (.int .i32 50)).run Tryz.prog w = .ok (.string ⟨#[50]⟩) w := by kernel_rfl
theorem conv_d3 (w : World) : (convert 21 9 (.int .i32 51)).run Tryz.prog w = .ok (.string ⟨#[51]⟩) w := by kernel_rfl
theorem conv_d4 (w : World) : (convert 21 9 (.int .i32 52)).run Tryz.prog w = .ok (.string ⟨#[52]⟩) w := by kernel_rfl
theorem conv_d5 (w : World) : (convert 21 9 (.int .i32 53)).run Tryz.prog w = .ok (.string ⟨#[53]⟩) w := by kernel_rfl
theorem conv_d6 (w : World) : (convert 21 9 (.int .i32 54)).run Tryz.prog w = .ok (.string ⟨#[54]⟩) w := by kernel_rfl
theorem conv_d7 (w : World) : (convert 21 9 (.int .i32 55)).run Tryz.prog w = .ok (.string ⟨#[55]⟩) w := by kernel_rfl
theorem conv_d8 (w : World) : (convert 21 9 (.int .i32 56)).run Tryz.prog w = .ok (.string ⟨#[56]⟩) w := by kernel_rfl
theorem conv_d9 (w : World) : (convert 21 9 (.int .i32 57)).run Tryz.prog w = .ok (.string ⟨#[57]⟩) w := by kernel_rfl
theorem conv_digit (d : Nat) (h : d < 10) (w : World) : (convert 21 9 (.int .i32 (((48 + d : Nat)) : Int))).run Tryz.prog w = .ok (.string ⟨[UInt8.ofNat (48 + d)].toArray⟩) w := by
 obtain rfl | rfl | rfl | rfl | rfl | rfl | rfl | rfl | rfl | rfl : d = 0 ∨ d = 1 ∨ d = 2 ∨ d = 3 ∨ d = 4 ∨ d = 5 ∨ d = 6 ∨ d = 7 ∨ d = 8 ∨ d = 9 := by omega
 ·exact conv_d0 w
 ·exact conv_d1 w
 ·exact conv_d2 w
 ·exact conv_d3 w
 ·exact conv_d4 w
 ·exact conv_d5 w
 ·exact conv_d6 w
 ·exact conv_d7 w
 ·exact conv_d8 w
 ·exact conv_d9 w
theorem r1_FromInt (w : World) (n : Nat) (h : n ≤ 9223372036854775807) : Calls Tryz.prog 98 #[.int .i64 n] w fun e w' => e = .returned (.tuple #[numV n, .int .i64 0]) ∧ w = w' := by
 have hd20 := hid (show nDigits n ≤ 19 from nDigits_le (by omega) (by omega))
 go_enter Tryz.func98, Tryz.ntmps98
 go_wp2_with fail
 go_loop [0, 4] (fun nn ss => ∃ (m : Nat) (l : List UInt8), nn = .int .i64 m ∧ m ≤ 9223372036854775807 ∧ ss = .string ⟨l.toArray⟩ ∧ l.length ≤ 19 ∧ Hid (decDigits n = decDigits m ++ l)) (fun nn _ => (intOf nn).toNat)
 case atStart => exact ⟨n, [], rfl, h, rfl, by simp, by simp [Hid]⟩
 case round =>
  obtain ⟨m, l, rfl, hm, rfl, hl, hd⟩ := hrel
  have hc := conv_digit (m % 10) (by omega)
  have hz : (((48 + m % 10 : Nat)) : Int) = 48 + (m : Int) % 10 := by omega
  rw [hz] at hc
  by_cases h9 : 9 < m
  ·have q1 : decide ((9 : Int) < (m : Int)) = true := by simp; omega
   have hdm := hid (decDigits_big (u := m) (by omega))
   have hl19 : l.length + 1 ≤ 19 := by
    have h1 := congrArg List.length hd.out
    rw [List.length_append, Go.Lib.decDigits_length] at h1
    have h2 := hd20.out
    have h3 := dec_length_pos m
    omega
   clear hz
   go_wp2_with fail
   go_round
   case rel => exact ⟨m / 10, UInt8.ofNat (48 + m % 10) :: l, by go_num, by omega, by simp [Go.ByteArray.mk_append_mk], by simpa using hl19, by rw [Hid, hd.out, hdm.out]; simp⟩
   case measure => simp [intOf] <;> omega
  ·have q1 : decide ((9 : Int) < (m : Int)) = false := by simp; omega
   have hm9 : m < 10 := by omega
   have hdm := hid (decDigits_small hm9)
   have hmm : m % 10 = m := Nat.mod_eq_of_lt hm9
   rw [hmm] at hc
   have hmI : (48 + (m : Int) % 10) = 48 + (m : Int) := by omega
   rw [hmI] at hc
   clear hz hmm hmI h9
   go_wp2_with fail
   go_ret2
   refine ⟨ret_pair ?_ rfl, rfl⟩
   rw [numV, hd.out, hdm.out]
   simp [Go.ByteArray.mk_append_mk]
end Go.Proofs.YtckihjfkafdncaaGreatDoor
namespace Go.Proofs.YtckihjfkafdncaaGreatDoor
open Go.RowKit
theorem r1_Plus (w : World) (v u : Value) (a b : Nat) (ha : IsN .i64 w v a) (hb : IsN .i64 w u b) (hla : (limbs a).length ≤ 1000000) (hlb : (limbs b).length ≤ 1000000) :
 Calls Tryz.prog 99 #[v, u] w fun e w' => RetN .i64 (a + b) e w' ∧ Below w.heap.size w w' := by
 obtain ⟨i0, hi, hz0, hz1, hz2⟩ := info_parts info_int
 obtain ⟨a1, c1, rfl, h1, h2, h3⟩ := ha.openI
 obtain ⟨a2, c2, rfl, k1, k2, k3⟩ := hb.openI
 have H3 := hid h3; have K3 := hid k3; clear h3 k3 ha hb
 obtain ⟨n, ea⟩ : ∃ n, (limbs a).length = n := ⟨_, rfl⟩
 obtain ⟨m, eb⟩ : ∃ m, (limbs b).length = m := ⟨_, rfl⟩
 rw [ea] at h1 hla ⊢
 rw [eb] at k1 hlb ⊢
 have HA := hid ea; have HB := hid eb
 clear ea eb
 go_enter Tryz.func99, Tryz.ntmps99
 go_wp2_with fail
 go_loopw [5, 6, 7] (fun o cc i wr => ∃ (s : List Nat) (c : Nat) (C : Int), i = .int .i64 s.length ∧ cc = .int .i64 C ∧ C = (c : Int) ∧ c ≤ 1 ∧ s.length ≤ 1000001 ∧ (s.length ≤ n ∨ s.length ≤ m ∨ c = 0) ∧ Hid (PlusI a b s c) ∧ Hid (wr.ownsRow w.heap.size 3 1 o s.length (ints .i64 s)) ∧ Hid (Below w.heap.size w wr))
  (fun _ _ i _ => 1000002 - (intOf i).toNat)
 case atStart => exact ⟨[], 0, 0, rfl, rfl, rfl, by omega, by simp, .inl (by simp), PlusI.start a b, World.ownsRow_nil _ _ _ _, Below.refl _ _⟩
 case round =>
  obtain ⟨s, c, C, rfl, rfl, hC, hc1, hs1, hs2, hP, hO, hB⟩ := hrel
  obtain ⟨ao, co, rfl⟩ := owns_ex hO.out
  by_cases hA : s.length < n
  ·obtain ⟨x, hx⟩ : ∃ x, (limbs a)[s.length]? = some x := ⟨_, List.getElem?_eq_getElem (by rw [HA.out]; exact hA)⟩
   obtain ⟨g, og, rfl, hg, hc⟩ := H3.out _ x hx
   have hc' := (hB.out.cell (p := ⟨g, og + s.length, none⟩) hg).trans hc
   have hxl := (sm_limbs a).get hx
   have HX := hid hx; clear hx hc
   by_cases hB' : s.length < m
   ·obtain ⟨y, hy⟩ : ∃ y, (limbs b)[s.length]? = some y := ⟨_, List.getElem?_eq_getElem (by rw [HB.out]; exact hB')⟩
    obtain ⟨g', og', rfl, hg', hd⟩ := K3.out _ y hy
    have hd' := (hB.out.cell (p := ⟨g', og' + s.length, none⟩) hg').trans hd
    have hyl := (sm_limbs b).get hy
    have HY := hid hy; clear hy hd
    rcases (show c = 0 ∨ c = 1 by omega) with rfl | rfl
    ·obtain rfl : C = 0 := by omega
     clear hC
     have HN := hid (hP.out.next (by rw [HA.out]; exact .inl hA))
     rw [getD_of HX.out, getD_of HY.out] at HN
     go_wp2_with (at_builtin; refine wpList_append_own _ rfl _ _ 82 rfl w.heap.size 3 i0 (.int .i64 0) 1 8 Tryz.underlying82 hi hz0 hz1 hz2 rfl (by decide) _ s.length _ rfl (hO.out.alloc _) ⟨wr.heap.size, 0, none⟩ 1 1 [.int .i64 ((↑x + ↑y : Int) % 1000000000)] rfl rfl (cell_one_new wr (.int .i64 ((↑x + ↑y : Int) % 1000000000)) 3) (by simp [Value.oneCell']) (by unfold maxLen; omega) (by omega) (by have := hB.out.size; simp; omega) ?_; intro v' w3 hown3 hgrow3 _; have HO3 := hid hown3; have HG3 := hid hgrow3; clear hown3 hgrow3)
     have hz : ((↑x + ↑y : Int) % 1000000000) = (((x + 0 + y) % 1000000000 : Nat) : Int) := by omega
     rw [hz] at HO3
     obtain ⟨n1, n2⟩ := own_next hO.out hB.out HO3.out HG3.out
     have N1 := hid n1; have N2 := hid n2; clear n1 n2 hz HO3 HG3
     obtain ⟨a3, k3, rfl⟩ := owns_ex N1.out
     go_wp2_with fail
     go_roundw
     case rel => exact ⟨s ++ [(x + 0 + y) % 1000000000], (x + 0 + y) / 1000000000, _, by simp, rfl, by omega, HN.out.c1, by simp <;> omega, by simp <;> omega, HN, N1, N2⟩
     case measure => simp [intOf] <;> omega
    ·obtain rfl : C = 1 := by omega
     clear hC
     have HN := hid (hP.out.next (by rw [HA.out]; exact .inl hA))
     rw [getD_of HX.out, getD_of HY.out] at HN
     go_wp2_with (at_builtin; refine wpList_append_own _ rfl _ _ 82 rfl w.heap.size 3 i0 (.int .i64 0) 1 8 Tryz.underlying82 hi hz0 hz1 hz2 rfl (by decide) _ s.length _ rfl (hO.out.alloc _) ⟨wr.heap.size, 0, none⟩ 1 1 [.int .i64 ((1 + ↑x + ↑y : Int) % 1000000000)] rfl rfl (cell_one_new wr (.int .i64 ((1 + ↑x + ↑y : Int) % 1000000000)) 3) (by simp [Value.oneCell']) (by unfold maxLen; omega) (by omega) (by have := hB.out.size; simp; omega) ?_; intro v' w3 hown3 hgrow3 _; have HO3 := hid hown3; have HG3 := hid hgrow3; clear hown3 hgrow3)
     have hz : ((1 + ↑x + ↑y : Int) % 1000000000) = (((x + 1 + y) % 1000000000 : Nat) : Int) := by omega
     rw [hz] at HO3
     obtain ⟨n1, n2⟩ := own_next hO.out hB.out HO3.out HG3.out
     have N1 := hid n1; have N2 := hid n2; clear n1 n2 hz HO3 HG3
     obtain ⟨a3, k3, rfl⟩ := owns_ex N1.out
     go_wp2_with fail
     go_roundw
     case rel => exact ⟨s ++ [(x + 1 + y) % 1000000000], (x + 1 + y) / 1000000000, _, by simp, rfl, by omega, HN.out.c1, by simp <;> omega, by simp <;> omega, HN, N1, N2⟩
     case measure => simp [intOf] <;> omega
   ·skip
    rcases (show c = 0 ∨ c = 1 by omega) with rfl | rfl
    ·obtain rfl : C = 0 := by omega
     clear hC
     have HN := hid (hP.out.next (by rw [HA.out]; exact .inl hA))
     rw [getD_of HX.out, getD_none (by rw [HB.out]; omega)] at HN
     go_wp2_with (at_builtin; refine wpList_append_own _ rfl _ _ 82 rfl w.heap.size 3 i0 (.int .i64 0) 1 8 Tryz.underlying82 hi hz0 hz1 hz2 rfl (by decide) _ s.length _ rfl (hO.out.alloc _) ⟨wr.heap.size, 0, none⟩ 1 1 [.int .i64 ((↑x : Int) % 1000000000)] rfl rfl (cell_one_new wr (.int .i64 ((↑x : Int) % 1000000000)) 3) (by simp [Value.oneCell']) (by unfold maxLen; omega) (by omega) (by have := hB.out.size; simp; omega) ?_; intro v' w3 hown3 hgrow3 _; have HO3 := hid hown3; have HG3 := hid hgrow3; clear hown3 hgrow3)
     have hz : ((↑x : Int) % 1000000000) = (((x + 0 + 0) % 1000000000 : Nat) : Int) := by omega
     rw [hz] at HO3
     obtain ⟨n1, n2⟩ := own_next hO.out hB.out HO3.out HG3.out
     have N1 := hid n1; have N2 := hid n2; clear n1 n2 hz HO3 HG3
     obtain ⟨a3, k3, rfl⟩ := owns_ex N1.out
     go_wp2_with fail
     go_roundw
     case rel => exact ⟨s ++ [(x + 0 + 0) % 1000000000], (x + 0 + 0) / 1000000000, _, by simp, rfl, by omega, HN.out.c1, by simp <;> omega, by simp <;> omega, HN, N1, N2⟩
     case measure => simp [intOf] <;> omega
    ·obtain rfl : C = 1 := by omega
     clear hC
     have HN := hid (hP.out.next (by rw [HA.out]; exact .inl hA))
     rw [getD_of HX.out, getD_none (by rw [HB.out]; omega)] at HN
     go_wp2_with (at_builtin; refine wpList_append_own _ rfl _ _ 82 rfl w.heap.size 3 i0 (.int .i64 0) 1 8 Tryz.underlying82 hi hz0 hz1 hz2 rfl (by decide) _ s.length _ rfl (hO.out.alloc _) ⟨wr.heap.size, 0, none⟩ 1 1 [.int .i64 ((1 + ↑x : Int) % 1000000000)] rfl rfl (cell_one_new wr (.int .i64 ((1 + ↑x : Int) % 1000000000)) 3) (by simp [Value.oneCell']) (by unfold maxLen; omega) (by omega) (by have := hB.out.size; simp; omega) ?_; intro v' w3 hown3 hgrow3 _; have HO3 := hid hown3; have HG3 := hid hgrow3; clear hown3 hgrow3)
     have hz : ((1 + ↑x : Int) % 1000000000) = (((x + 1 + 0) % 1000000000 : Nat) : Int) := by omega
     rw [hz] at HO3
     obtain ⟨n1, n2⟩ := own_next hO.out hB.out HO3.out HG3.out
     have N1 := hid n1; have N2 := hid n2; clear n1 n2 hz HO3 HG3
     obtain ⟨a3, k3, rfl⟩ := owns_ex N1.out
     go_wp2_with fail
     go_roundw
     case rel => exact ⟨s ++ [(x + 1 + 0) % 1000000000], (x + 1 + 0) / 1000000000, _, by simp, rfl, by omega, HN.out.c1, by simp <;> omega, by simp <;> omega, HN, N1, N2⟩
     case measure => simp [intOf] <;> omega
  ·skip
   by_cases hB' : s.length < m
   ·obtain ⟨y, hy⟩ : ∃ y, (limbs b)[s.length]? = some y := ⟨_, List.getElem?_eq_getElem (by rw [HB.out]; exact hB')⟩
    obtain ⟨g', og', rfl, hg', hd⟩ := K3.out _ y hy
    have hd' := (hB.out.cell (p := ⟨g', og' + s.length, none⟩) hg').trans hd
    have hyl := (sm_limbs b).get hy
    have HY := hid hy; clear hy hd
    rcases (show c = 0 ∨ c = 1 by omega) with rfl | rfl
    ·obtain rfl : C = 0 := by omega
     clear hC
     have HN := hid (hP.out.next (by rw [HB.out]; exact .inr (.inl hB')))
     rw [getD_none (by rw [HA.out]; omega), getD_of HY.out] at HN
     go_wp2_with (at_builtin; refine wpList_append_own _ rfl _ _ 82 rfl w.heap.size 3 i0 (.int .i64 0) 1 8 Tryz.underlying82 hi hz0 hz1 hz2 rfl (by decide) _ s.length _ rfl (hO.out.alloc _) ⟨wr.heap.size, 0, none⟩ 1 1 [.int .i64 ((↑y : Int) % 1000000000)] rfl rfl (cell_one_new wr (.int .i64 ((↑y : Int) % 1000000000)) 3) (by simp [Value.oneCell']) (by unfold maxLen; omega) (by omega) (by have := hB.out.size; simp; omega) ?_; intro v' w3 hown3 hgrow3 _; have HO3 := hid hown3; have HG3 := hid hgrow3; clear hown3 hgrow3)
     have hz : ((↑y : Int) % 1000000000) = (((0 + 0 + y) % 1000000000 : Nat) : Int) := by omega
     rw [hz] at HO3
     obtain ⟨n1, n2⟩ := own_next hO.out hB.out HO3.out HG3.out
     have N1 := hid n1; have N2 := hid n2; clear n1 n2 hz HO3 HG3
     obtain ⟨a3, k3, rfl⟩ := owns_ex N1.out
     go_wp2_with fail
     go_roundw
     case rel => exact ⟨s ++ [(0 + 0 + y) % 1000000000], (0 + 0 + y) / 1000000000, _, by simp, rfl, by omega, HN.out.c1, by simp <;> omega, by simp <;> omega, HN, N1, N2⟩
     case measure => simp [intOf] <;> omega
    ·obtain rfl : C = 1 := by omega
     clear hC
     have HN := hid (hP.out.next (by rw [HB.out]; exact .inr (.inl hB')))
     rw [getD_none (by rw [HA.out]; omega), getD_of HY.out] at HN
     go_wp2_with (at_builtin; refine wpList_append_own _ rfl _ _ 82 rfl w.heap.size 3 i0 (.int .i64 0) 1 8 Tryz.underlying82 hi hz0 hz1 hz2 rfl (by decide) _ s.length _ rfl (hO.out.alloc _) ⟨wr.heap.size, 0, none⟩ 1 1 [.int .i64 ((1 + ↑y : Int) % 1000000000)] rfl rfl (cell_one_new wr (.int .i64 ((1 + ↑y : Int) % 1000000000)) 3) (by simp [Value.oneCell']) (by unfold maxLen; omega) (by omega) (by have := hB.out.size; simp; omega) ?_; intro v' w3 hown3 hgrow3 _; have HO3 := hid hown3; have HG3 := hid hgrow3; clear hown3 hgrow3)
     have hz : ((1 + ↑y : Int) % 1000000000) = (((0 + 1 + y) % 1000000000 : Nat) : Int) := by omega
     rw [hz] at HO3
     obtain ⟨n1, n2⟩ := own_next hO.out hB.out HO3.out HG3.out
     have N1 := hid n1; have N2 := hid n2; clear n1 n2 hz HO3 HG3
     obtain ⟨a3, k3, rfl⟩ := owns_ex N1.out
     go_wp2_with fail
     go_roundw
     case rel => exact ⟨s ++ [(0 + 1 + y) % 1000000000], (0 + 1 + y) / 1000000000, _, by simp, rfl, by omega, HN.out.c1, by simp <;> omega, by simp <;> omega, HN, N1, N2⟩
     case measure => simp [intOf] <;> omega
   ·skip
    rcases (show c = 0 ∨ c = 1 by omega) with rfl | rfl
    ·obtain rfl : C = 0 := by omega
     clear hC
     have hs := hid (hP.out.done (by rw [HA.out]; exact hA) (by rw [HB.out]; exact hB') rfl)
     go_wp2_with fail
     go_ret
     exact ⟨⟨_, rfl, owns_isN hO.out hs.out⟩, hB.out⟩
    ·obtain rfl : C = 1 := by omega
     clear hC
     have HN := hid (hP.out.next (by exact .inr (.inr (by omega))))
     rw [getD_none (by rw [HA.out]; omega), getD_none (by rw [HB.out]; omega)] at HN
     go_wp2_with (at_builtin; refine wpList_append_own _ rfl _ _ 82 rfl w.heap.size 3 i0 (.int .i64 0) 1 8 Tryz.underlying82 hi hz0 hz1 hz2 rfl (by decide) _ s.length _ rfl (hO.out.alloc _) ⟨wr.heap.size, 0, none⟩ 1 1 [.int .i64 (1)] rfl rfl (cell_one_new wr (.int .i64 (1)) 3) (by simp [Value.oneCell']) (by unfold maxLen; omega) (by omega) (by have := hB.out.size; simp; omega) ?_; intro v' w3 hown3 hgrow3 _; have HO3 := hid hown3; have HG3 := hid hgrow3; clear hown3 hgrow3)
     have hz : (1) = (((0 + 1 + 0) % 1000000000 : Nat) : Int) := by omega
     rw [hz] at HO3
     obtain ⟨n1, n2⟩ := own_next hO.out hB.out HO3.out HG3.out
     have N1 := hid n1; have N2 := hid n2; clear n1 n2 hz HO3 HG3
     obtain ⟨a3, k3, rfl⟩ := owns_ex N1.out
     go_wp2_with fail
     go_roundw
     case rel => exact ⟨s ++ [(0 + 1 + 0) % 1000000000], (0 + 1 + 0) / 1000000000, _, by simp, rfl, by omega, HN.out.c1, by simp <;> omega, by simp <;> omega, HN, N1, N2⟩
     case measure => simp [intOf] <;> omega
open Go.Lib (decDigits nDigits)
theorem r2_Int (w : World) (n : Nat) (h : n ≤ 9223372036854775807) : Calls Tryz.prog 49 #[.int .i64 n] w fun e w' => e = .returned (.string (numB n)) ∧ w = w' := by
 have q0 : decide ((0 : Int) ≤ (n : Int)) = true := by simp
 go_enter Tryz.func49, Tryz.ntmps49
 go_wp2_with fail
 refine (r1_FromInt _ n h).mono ?_; rintro e w1 ⟨rfl, rfl⟩
 rw [numV_eq]
 go_wp2_with fail
 go_ret
 exact ⟨rfl, rfl⟩
theorem r3_small (w : World) (n : Nat) (h : n ≤ 9223372036854775807) : Calls Tryz.prog 153 #[.int .i64 n] w fun e w' => RetN .i64 n e w' ∧ Below w.heap.size w w' := by
 have hd := hid (show nDigits n ≤ 9000 from Nat.le_trans (nDigits_le (k := 19) (by omega) (by omega)) (by omega))
 go_enter Tryz.func153, Tryz.ntmps153
 go_wp2_with fail
 refine (r2_Int _ n h).mono ?_; rintro e w1 ⟨rfl, rfl⟩
 go_wp2_with fail
 refine (r1_Read_num _ n hd.out).mono ?_; rintro e w1 ⟨⟨v, rfl, hv⟩, hb⟩
 go_wp2_with fail
 go_ret
 exact ⟨⟨_, rfl, hv⟩, hb⟩
theorem limbs_two {n k : Nat} (h : n < 2 ^ k) : (limbs n).length ≤ k :=
 limbs_length_le.2 (Nat.lt_of_lt_of_le h (Nat.pow_le_pow_left (by omega) k))
theorem r3_Two (w : World) (n : Nat) (hn : n ≤ 100000) : Calls Tryz.prog 96 #[.int .i64 n] w fun e w' => RetN .i64 (2 ^ n) e w' ∧ Below w.heap.size w w' := by
 go_enter Tryz.func96, Tryz.ntmps96
 go_wp2_with fail
 refine (r3_small _ 1 (by omega)).mono ?_; rintro e w1 ⟨⟨v, rfl, hv⟩, hb⟩
 have V := hid hv; have B := hid hb
 clear hv hb
 go_wp2_with fail
 go_loopw [0, 3] (fun nn o wr => ∃ j : Nat, nn = .int .i64 j ∧ j ≤ n ∧ Hid (IsN .i64 wr o (2 ^ (n - j))) ∧ Hid (Below w.heap.size w wr)) (fun nn o wr => (intOf nn).toNat)
 case atStart => exact ⟨n, rfl, Nat.le_refl _, by rw [Nat.sub_self, Nat.pow_zero]; exact V, B⟩
 case round =>
  obtain ⟨j, rfl, hj, hO, hB⟩ := hrel
  by_cases h0 : 0 < j
  ·have q0 : decide ((0 : Int) < (j : Int)) = true := by simp; omega
   have ll : Hid ((limbs (2 ^ (n - j))).length ≤ 1000000) := Nat.le_trans (limbs_two (k := n - j + 1) (Nat.pow_lt_pow_right (by omega) (by omega))) (by omega)
   have hs : Hid (2 ^ (n - j) + 2 ^ (n - j) = 2 ^ (n - (j - 1))) := by
    show _ = _
    rw [show n - (j - 1) = n - j + 1 by omega, Nat.pow_succ]; omega
   go_wp2_with fail
   refine (r1_Plus _ _ _ _ _ hO.out hO.out ll.out ll.out).mono ?_; rintro e w2 ⟨⟨v2, rfl, hv2⟩, hb2⟩
   have V2 := hid hv2; have B2 := hid (bnext hB.out hb2)
   clear hv2 hb2
   go_wp2_with fail
   go_roundw
   case rel => exact ⟨j - 1, by go_num, by omega, V2.out.cast hs.out, B2⟩
   case measure => simp [intOf] <;> omega
  ·obtain rfl : j = 0 := by omega
   go_wp2_with fail
   go_ret
   exact ⟨⟨_, rfl, hO.out⟩, hB.out⟩
open Go.Shelf
theorem info_bits : (Tryz.prog.info? 33).map (fun i => (i.zero, i.size, i.bytes)) = some (some (.string ⟨#[]⟩), 1, 16) := by kernel_rfl
def tb (l : List UInt8) : ByteArray := ⟨l.toArray⟩
theorem tb_size (l : List UInt8) : (tb l).size = l.length := by simp [tb, ByteArray.size]
theorem tb_snoc (l : List UInt8) (b : UInt8) : tb l ++ (⟨#[b]⟩ : ByteArray) = tb (l ++ [b]) := by
 apply ba_ext
 simp [tb]
def nextW (L : List (List UInt8)) : List (List UInt8) := L.flatMap fun l => [l ++ [48], l ++ [49]]
theorem nextW_snoc (L : List (List UInt8)) (l : List UInt8) : nextW (L ++ [l]) = nextW L ++ [l ++ [48], l ++ [49]] := by simp [nextW]
theorem r3_All (w : World) (n : Nat) (hn : n ≤ 12) :
 Calls Tryz.prog 10 #[.int .i64 (n : Nat)] w fun e w' => (∃ v, e = .returned (.tuple #[v, .int .i64 0]) ∧ Row w' v (strs ((allW n).map tb))) ∧ Below w.heap.size w w' := by
 obtain ⟨i0, hi, hz0, hz1, hz2⟩ := info_parts info_bits
 have t1 : decide ((n : Int) < 0) = false := by simp
 have t2 : decide ((12 : Int) < (n : Int)) = false := by simp; omega
 have R0 : Row (w.alloc (.cells #[.string ⟨#[]⟩] 33)) (.slice (some ⟨w.heap.size, 0, none⟩) 1 1) (strs ((allW 0).map tb)) :=
  Row.of_blk (n := 1) (Blk.new w _ _) rfl (by decide) (fun i x h => by
   rcases i with _ | i
   ·simp [allW, strs, tb] at h ⊢; exact h
   ·simp [allW, strs, tb] at h) (Nat.le_refl 1) (by decide)
 have HR0 := hid R0
 have B0 := hid ((Below.refl w.heap.size w).alloc (Nat.le_refl _) (.cells #[.string ⟨#[]⟩] 33))
 clear R0
 go_enter Tryz.func10, Tryz.ntmps10
 go_wp2_with fail
 go_loopw [0, 4] (fun s0 s4 wr => ∃ j : Nat, j ≤ n ∧ s0 = .int .i64 ((n - j : Nat) : Int) ∧ Hid (Row wr s4 (strs ((allW j).map tb))) ∧ Hid (Below w.heap.size w wr)) (fun s0 s4 wr => (intOf s0).toNat)
 case atStart => exact ⟨0, Nat.zero_le _, rfl, HR0, B0⟩
 case round =>
  obtain ⟨j, hj, rfl, hR, hB⟩ := hrel
  by_cases hlt : j < n
  ·have q1 : decide (0 < n - j) = true := by simp; omega
   have hp : 2 ^ j ≤ 4096 := Nat.le_trans (Nat.pow_le_pow_right (by omega) (show j ≤ 12 by omega)) (by decide)
   have hlen : ((allW j).map tb).length = 2 ^ j := by rw [List.length_map, allW_length]
   obtain ⟨m, hm⟩ : ∃ m, 2 ^ j = m := ⟨_, rfl⟩
   rw [hm] at hp hlen
   obtain ⟨a, c, rfl, c1, c2, -⟩ := hR.out.openS
   rw [hlen] at hR c1 ⊢
   have HLN := hid hlen
   have q2 : (0 : Int) < ((n - j : Nat) : Int) := by omega
   have wn : IntKind.i64.wrap (((n - j : Nat) : Int) - 1) = ((n - (j + 1) : Nat) : Int) := by rw [IntWalk.i64_in _ ⟨by omega, by omega⟩]; omega
   have HWN := hid wn
   obtain ⟨wo, hwo⟩ : ∃ wo : World, wo = wr := ⟨_, rfl⟩
   subst hwo
   have HBO := hid hB.out.size
   clear hlen hm wn
   go_wp2_with fail
   clear q1
   go_loopw [5, 6] (fun s5 s6 wr => ∃ i : Nat, i ≤ m ∧ s6 = .int .i64 (i : Nat) ∧ Hid (wr.ownsRow wo.heap.size 33 1 s5 (2 * i) (strs ((nextW ((allW j).take i)).map tb))) ∧ Hid (Below wo.heap.size wo wr)) (fun s5 s6 wr => m - (intOf s6).toNat)
   case atStart => exact ⟨0, Nat.zero_le _, rfl, ⟨rfl, .inl ⟨rfl, rfl⟩⟩, Below.refl _ _⟩
   case round =>
    obtain ⟨i, hi2, rfl, hO, hB2⟩ := hrel
    by_cases hlt2 : i < m
    ·obtain ⟨l, hl⟩ : ∃ l, (allW j)[i]? = some l := ⟨_, List.getElem?_eq_getElem (by have := HLN.out; rw [List.length_map] at this; omega)⟩
     have hll := allW_len (List.mem_of_getElem? hl)
     obtain ⟨g, o, rfl, hg, hc⟩ := hR.out.at (strs_get (show ((allW j).map tb)[i]? = some (tb l) by rw [List.getElem?_map, hl]; rfl))
     have hc2 := (hB2.out.cell (p := ⟨g, o + i, none⟩) hg).trans hc
     have hsz : ¬ 9223372036854775807 < (tb l).size + 1 := by rw [tb_size]; omega
     have HX : Hid ((allW j).take (i + 1) = (allW j).take i ++ [l]) := by show (allW j).take (i + 1) = _; rw [List.take_add_one, hl]; rfl
     have b1 : (0 : Int) ≤ (i : Int) := by omega
     have b2 : (i : Int) < (m : Int) := by omega
     have wi : IntKind.i64.wrap ((i : Int) + 1) = ((i + 1 : Nat) : Int) := by rw [IntWalk.i64_in _ ⟨by omega, by omega⟩]; omega
     have e1 := hid (tb_snoc l 48)
     have e2 := hid (tb_snoc l 49)
     have KK : Hid (∀ w', Below wr.heap.size wr w' → w'.cell? ⟨g, o + i, none⟩ = some (.string (tb l))) := fun w' hb => (hb.cell (p := ⟨g, o + i, none⟩) (Nat.lt_of_lt_of_le hg hB2.out.size)).trans hc2
     obtain ⟨X, hX⟩ : ∃ X, tb l = X := ⟨_, rfl⟩
     rw [hX] at hc2 hsz e1 e2 KK
     clear hl hll hc hX
     go_wp2_with fail
     refine held_plain [0, 1, 2, 3, 4, 5, 6, 7, 8, 9, 10] 3 (fun w' => w'.cell? ⟨g, o + i, none⟩ = some (.string X)) (by kernel_rfl) (by kernel_rfl) (by kernel_rfl) (by kernel_rfl) (KK.out _ (Below.refl _ _).drew) ?_
     iterate 11
      refine ⟨_, rfl, ?_⟩
      apply Exists.intro
      refine ⟨.inl ⟨by rfl, ?_⟩, ?_⟩
      ·(intro W' hW'; obtain q1 := hW'; go_simp; try (with_reducible rfl))
      (dsimp only [Act.put]; try simp only [List.setIfInBounds_toArray, List.set_cons_zero, List.set_cons_succ])
     refine held_one (i := 11) (by kernel_rfl) (by rfl) (by rfl) ?_
     go_wp2_with fail
     refine ⟨KK.out _ ((Below.refl _ _).drew.alloc (Nat.le_refl _) _), ?_⟩
     refine held_one (i := 12) (by kernel_rfl) (by rfl) (by rfl) ?_
     have cells : ∀ j u, [Value.string (X ++ ⟨#[48]⟩), .string (X ++ ⟨#[49]⟩)][j]? = some u → (wr.alloc (.cells #[.string (X ++ ⟨#[48]⟩), .string (X ++ ⟨#[49]⟩)] 33)).drew.cell? ((⟨wr.heap.size, 0, none⟩ : Addr).add j) = some u := cell_two_new wr _ _ 33
     refine wpList_append_own _ rfl _ _ 30 rfl wo.heap.size 33 i0 (.string ⟨#[]⟩) 1 16 Tryz.underlying30 hi hz0 hz1 hz2 rfl (by decide) _ (2 * i) _ rfl (hO.out.alloc _) ⟨wr.heap.size, 0, none⟩ 2 2 [.string (X ++ ⟨#[48]⟩), .string (X ++ ⟨#[49]⟩)] rfl rfl cells (by simp [Value.oneCell']) (by unfold maxLen; omega) (by omega) (by have := hB2.out.size; simp; omega) ?_
     intro v' w3 hown3 hgrow3 _
     have hO3 := hid (show w3.ownsRow wo.heap.size 33 1 v' (2 * (i + 1)) (strs ((nextW ((allW j).take (i + 1))).map tb)) by
      rw [HX.out, nextW_snoc, List.map_append, strs_append]
      have h2 : strs ([l ++ [48], l ++ [49]].map tb) = [.string (X ++ ⟨#[48]⟩), .string (X ++ ⟨#[49]⟩)] := by
       rw [e1.out, e2.out]; rfl
      rw [h2]
      exact hown3)
     have hB3 : Hid (Below wo.heap.size wo w3) := by
      refine ((hB2.out.alloc hB2.out.size _).drew).trans ⟨hgrow3.os, hgrow3.tape, hgrow3.output, hgrow3.size, fun k hk => hgrow3.block k (by have := hB2.out.size; simp; omega) (fun e => ?_)⟩
      have := (hO.out.lt k e.symm).1
      omega
     have m0 : w3.cell? ⟨g, o + i, none⟩ = some (.string X) := (hB3.out.cell (p := ⟨g, o + i, none⟩) hg).trans ((hB2.out.cell (p := ⟨g, o + i, none⟩) hg).symm.trans hc2)
     clear hown3 hgrow3 cells
     go_wp2_with fail
     refine ⟨m0, ?_⟩
     refine held_more (is := [13]) (g := 0) (by kernel_rfl) rfl m0 (by kernel_rfl) ?_
     iterate 1
      refine ⟨_, rfl, ?_⟩
      apply Exists.intro
      refine ⟨.inl ⟨by rfl, ?_⟩, ?_⟩
      ·(intro W' hW'; obtain q1 := hW'; go_simp; try (with_reducible rfl))
      (dsimp only [Act.put]; try simp only [List.setIfInBounds_toArray, List.set_cons_zero, List.set_cons_succ])
     refine wpAnyH_done (by kernel_rfl) ?_ _
     simp only [Only]
     go_wp2_with fail
     go_roundw
     case rel => exact ⟨i + 1, by omega, by go_num, hO3, hB3⟩
     case measure => simp [intOf] <;> omega
    ·obtain rfl : i = m := by omega
     have q1 : decide ((i : Int) < (i : Int)) = false := by simp
     have h := hO.out
     rw [List.take_of_length_le (by have := HLN.out; rw [List.length_map] at this; omega)] at h
     have hrow := hid (show Row _ _ (strs ((allW (j + 1)).map tb)) from Row.of_owns h)
     have hB3 := hid (hB.out.trans (hB2.out.mono HBO.out))
     have wn := HWN.out
     clear hlt2 h
     go_wp2_with fail
     go_roundw
     case rel => exact ⟨j + 1, by omega, rfl, hrow, hB3⟩
     case measure => simp [intOf] <;> omega
  ·obtain rfl : j = n := by omega
   have q1 : decide (((j - j : Nat) : Int) > 0) = false := by simp
   have q2 : ((j - j : Nat) : Int) = 0 := by simp
   obtain ⟨a, c, rfl, -⟩ := hR.out.openS
   clear hlt
   go_wp2_with fail
   go_ret2
   exact ⟨⟨_, rfl, hR.out⟩, hB.out⟩
end Go.Proofs.YtckihjfkafdncaaGreatDoor
namespace Go.Proofs
open Go.Shelf
def Tryz.lays212_ren : Go.Shelf.Ren := ⟨fun | 212 => 127 | 263 => 180 | 264 => 181 | n => n, fun | 46 => 118 | 51 => 170 | 146 => 194 | 53 => 135 | 148 => 196 | n => n, fun | n => n⟩
theorem Tryz.lays212 : Go.Proofs.Lays.n212 Tryz.prog Tryz.lays212_ren := {
 mixed := by kernel_rfl
 f212 := Tryz.func127.trans (congrArg some (by kernel_rfl))
 f263 := Tryz.func180.trans (congrArg some (by kernel_rfl))
 f264 := Tryz.func181.trans (congrArg some (by kernel_rfl))
 t46 := Tryz.underlying118
 a46 := Tryz.isAgg118
 z46 := Tryz.sizeOf118
 v46 := Tryz.zeroValue118
 t51 := Tryz.underlying170
 a51 := Tryz.isAgg170
 z51 := Tryz.sizeOf170
 v51 := Tryz.zeroValue170
 t53 := Tryz.underlying135
 a53 := Tryz.isAgg135
 z53 := Tryz.sizeOf135
 v53 := Tryz.zeroValue135
 t146 := Tryz.underlying194
 a146 := Tryz.isAgg194
 z146 := Tryz.sizeOf194
 v146 := Tryz.zeroValue194
 t148 := Tryz.underlying196
 a148 := Tryz.isAgg196
 z148 := Tryz.sizeOf196
 v148 := Tryz.zeroValue196 }
open Go.RowKit Go.Lib in
theorem Tryz.bits_Mul (x y : Nat) (hx : x < 18446744073709551616) (hy : y < 18446744073709551616) (w : World) :
 Calls Tryz.prog 127 #[.int .u64 x, .int .u64 y] w fun e w' => e = .returned (.tuple #[.int .u64 ((x * y / 18446744073709551616 : Nat) : Int), .int .u64 ((x * y % 18446744073709551616 : Nat) : Int)]) ∧ w' = w := Any.bits_Mul Tryz.lays212 x y hx hy w
end Go.Proofs
namespace Go.Proofs.YtckihjfkafdncaaGreatDoor
open Go.RowKit
def strsR (l : List ByteArray) : List Value := l.map Value.string
@[simp] theorem strsR_length (l : List ByteArray) : (strsR l).length = l.length := by simp [strsR]
theorem strsR_get {l : List ByteArray} {i : Nat} {s : ByteArray} (h : l[i]? = some s) : (strsR l)[i]? = some (.string s) := by simp [strsR, h]
theorem strsR_one (l : List ByteArray) : ∀ u ∈ strsR l, u.oneCell' = true := by
 intro u hu
 obtain ⟨x, _, rfl⟩ := List.mem_map.1 hu
 rfl
theorem make_strsR (n : Nat) (h : n ≤ 1000000) (W : World) : (Instr.makeSlice 60 (.int .i64 (n : Int)) (.int .i64 (n : Int))).run Tryz.prog W = .ok (.slice (some ⟨W.heap.size, 0, none⟩) n n) (W.alloc (.cells (madeCells #[.string ⟨#[]⟩] n) 22)) :=
 run_make_row' (P := Tryz.prog) 60 22 (.string ⟨#[]⟩) 16 Tryz.underlying60 (by kernel_rfl) rfl .i64 .i64 n (by omega) (by omega) W
theorem made_strsR (n : Nat) : madeCells #[.string ⟨#[]⟩] n = (strsR (List.replicate n ⟨#[]⟩)).toArray := by
 apply Array.ext_getElem?
 intro i
 unfold madeCells strsR
 by_cases hi : i < n <;> simp [hi, Nat.mod_one]
def repS (s : ByteArray) (n k : Nat) : List Value := strsR (List.replicate k s ++ List.replicate (n - k) ⟨#[]⟩)
theorem repS_splice {s : ByteArray} {n k m : Nat} (h : k + m ≤ n) : splice (repS s n k) k (strsR (List.replicate m s)) = repS s n (k + m) := by
 unfold splice repS strsR
 simp only [List.map_append, List.map_replicate, List.length_replicate]
 rw [List.take_append_of_le_length (by simp), List.take_of_length_le (by simp), List.drop_append, List.drop_of_length_le (by simp), List.nil_append, List.length_replicate, List.drop_replicate, ← List.append_assoc, List.replicate_append_replicate]
 rw [show n - k - (k + m - k) = n - (k + m) by omega]
theorem s_Repeat (w : World) (g0 n : Nat) (s : ByteArray) (h1 : 1 ≤ n) (h2 : n ≤ 100000) (hc : w.cell? ⟨g0, 0, none⟩ = some (.string s)) :
 Calls Tryz.prog 79 #[.slice (some ⟨g0, 0, none⟩) 1 1, .int .i64 n] w fun e w' =>
  e = .returned (.slice (some ⟨w.heap.size, 0, none⟩) n n) ∧ Blk w' w.heap.size (strsR (List.replicate n s)).toArray 22 ∧ Below w.heap.size w w' := by
 have HM := fun W => hid (make_strsR n (by omega) W)
 have HB := fun W => hid (Tryz.bits_Mul 1 n (by omega) (by omega) W)
 have e1 : (((1 * n / 18446744073709551616 : Nat)) : Int) = 0 := by
  rw [Nat.one_mul, Nat.div_eq_of_lt (by omega)]; rfl
 have e2 : (((1 * n % 18446744073709551616 : Nat)) : Int) = (n : Int) := by
  rw [Nat.one_mul, Nat.mod_eq_of_lt (by omega)]
 rw [e1, e2] at HB
 have hn0 : (0 : Int) ≤ (n : Int) := by omega
 have hn1 : (n : Int) ≤ 100000 := by omega
 have q0 : decide ((n : Int) < 0) = false := by simp
 have hsrc : ∀ j v, (strsR [s])[j]? = some v → w.cell? ((⟨g0, 0, none⟩ : Addr).add j) = some v := by
  intro j v hj
  rcases j with _ | j
  ·simp [strsR] at hj; rw [← hj]; exact hc
  ·simp [strsR] at hj
 have HSRC := hid hsrc; have H1 := hid h1; have H2 := hid h2
 clear e1 e2 hsrc hc h1 h2
 go_enter Tryz.func79, Tryz.ntmps79
 go_wp2_with fail
 refine (HB _).out.mono ?_; rintro e w1 ⟨rfl, rfl⟩
 clear HB
 have HM1 := (HM w1).out
 have hc1 : (w1.alloc (.cells (madeCells #[.string ⟨#[]⟩] n) 22)).heap[w1.heap.size]? = some (.cells (repS s n 0).toArray 22 (0, 0)) := by
  have := Blk.new w1 (madeCells #[.string ⟨#[]⟩] n) 22
  rw [made_strsR] at this ⊢
  simpa [repS, Blk] using this
 have hc2 : (strsR [s]).length = Nat.min 1 n := (Nat.min_eq_left H1.out).symm
 have hc3 : ∀ j v, (strsR [s])[j]? = some v → (w1.alloc (.cells (madeCells #[.string ⟨#[]⟩] n) 22)).cell? ((⟨g0, 0, none⟩ : Addr).add j) = some v := fun j v h =>
  have h2 := HSRC.out j v h
  (((Below.refl w1.heap.size w1).alloc (Nat.le_refl _) _).cell (cell_lt h2)).trans h2
 have hc4 : 0 + (strsR [s]).length ≤ (repS s n 0).length := by simp [strsR, repS]; have := H1.out; omega
 have hc5 := (Below.refl w1.heap.size w1).alloc (Nat.le_refl _) (.cells (madeCells #[.string ⟨#[]⟩] n) 22)
 have C1 := hid hc1; have C2 := hid hc2; have C3 := hid hc3; have C4 := hid hc4; have C5 := hid hc5
 have hsp : splice (repS s n 0) 0 (strsR [s]) = repS s n 1 := by
  have := repS_splice (s := s) (n := n) (k := 0) (m := 1) (by have := H1.out; omega)
  simpa using this
 have HSP := hid hsp
 clear hc1 hc2 hc3 hc4 hc5 HM hsp
 go_wp2_with (refine wpList_copy_splice rfl (.tmp 31) (.tmp 32) 60 60 rfl 22 Tryz.underlying60 (by kernel_rfl) (some ⟨w1.heap.size, 0, none⟩) (some ⟨g0, 0, none⟩) n n 1 1 rfl rfl w1.heap.size 0 (repS s n 0) 22 C1.out (strsR [s]) C2.out (fun _ => ⟨rfl, _, rfl, C3.out⟩) C4.out (strsR_one _) w1.heap.size w1 C5.out (Nat.le_refl _) ?_; intro w2 hg2 hb2)
 rw [HSP.out] at hg2
 have G2 := hid (show Blk w2 w1.heap.size (repS s n 1).toArray 22 from hg2.out); have B2 := hid hb2
 obtain ⟨H, hH⟩ : ∃ H, w1.heap.size = H := ⟨_, rfl⟩
 rw [hH] at G2 B2 ⊢
 clear hg2 hb2 HM1 C1 C2 C3 C4 C5 HSP HSRC
 have HH := hid hH
 clear hH
 go_loopw [8] (fun i wr => ∃ k : Nat, i = .int .i64 (k : Nat) ∧ 1 ≤ k ∧ k ≤ n ∧ Hid (Blk wr H (repS s n k).toArray 22) ∧ Hid (Below H w1 wr)) (fun i wr => n - (intOf i).toNat)
 case atStart => exact ⟨1, rfl, Nat.le_refl _, H1.out, G2.out, B2.out⟩
 case round =>
  obtain ⟨k, rfl, hk1, hk2, hG, hB⟩ := hrel
  by_cases hlt : k < n
  ·have f0 : (0 : Int) ≤ (k : Int) := by omega
   have f1 : (k : Int) < (n : Int) := by omega
   have f2 : (k : Int) ≤ (n : Int) := by omega
   have K1 := hid hk1; have K2 := hid hlt
   clear hk1 hk2
   go_wp2_with fail
   refine held_plain [0, 1, 2, 3, 4, 5, 6] 3 (fun _ => True) (by kernel_rfl) (by kernel_rfl) (by kernel_rfl) (by kernel_rfl) trivial ?_
   iterate 7
    refine ⟨_, rfl, ?_⟩
    apply Exists.intro
    refine ⟨.inl ⟨by rfl, ?_⟩, ?_⟩
    ·(intro W' hW'; clear hW'; go_simp; try (with_reducible rfl))
    (dsimp only [Act.put]; try simp only [List.setIfInBounds_toArray, List.set_cons_zero, List.set_cons_succ])
   refine held_one (i := 7) (by kernel_rfl) (by rfl) (by rfl) ?_
   obtain ⟨m, hm⟩ : ∃ m, Nat.min k (n - k) = m := ⟨_, rfl⟩
   have hm1 : m ≤ k := hm ▸ Nat.min_le_left _ _
   have hm2 : m ≤ n - k := hm ▸ Nat.min_le_right _ _
   have hm3 : 1 ≤ m := by rw [← hm]; exact Nat.le_min.2 ⟨K1.out, by omega⟩
   have hsrc : ∀ j v, (strsR (List.replicate m s))[j]? = some v → wr.drew.cell? ((⟨H, 0, none⟩ : Addr).add j) = some v := fun j v hj => by
    rw [Addr.add_lit, Nat.zero_add]
    have hjm : j < m := by
     have := (List.getElem?_eq_some_iff.1 hj).1
     simpa using this
    have hv : v = .string s := by
     rw [strsR_get (s := s) (by rw [List.getElem?_replicate, if_pos hjm])] at hj
     cases hj; rfl
    rw [hv]
    refine (Blk.cell (Blk.drew hG.out) j).trans ?_
    rw [List.getElem?_toArray]
    exact strsR_get (by rw [List.getElem?_append_left (by simp; omega), List.getElem?_replicate, if_pos (by omega)])
   rw [if_neg (show ¬ n = k by have := K2.out; omega)]
   refine wpList_copy_splice rfl (.tmp 41) (.tmp 44) 60 60 rfl 22 Tryz.underlying60 (by kernel_rfl) (some ⟨H, k, none⟩) (some ⟨H, 0, none⟩) (n - k) (n - k) k n rfl rfl H k (repS s n k) 22 hG.out (strsR (List.replicate m s)) (by simp [hm]) (fun _ => ⟨rfl, _, rfl, hsrc⟩) (by simp [repS, strsR] <;> omega) (strsR_one _) H w1 (hB.out.drew) (Nat.le_refl _) ?_
   intro w4 hg4 hb4
   rw [show (strsR (List.replicate m s)).length = m by simp]
   rw [repS_splice (by omega)] at hg4
   have G4 := hid (show Blk w4 H (repS s n (k + m)).toArray 22 from hg4.out); have B4 := hid hb4
   have M2 := hid hm2; have M3 := hid hm3
   have f5 : (0 : Int) ≤ (m : Int) := by omega
   have f6 : (m : Int) ≤ 100000 := by omega
   have ew : IntKind.i64.wrap ((k : Int) + (m : Int)) = (k : Int) + (m : Int) := by rw [IntWalk.i64_in _ ⟨by omega, by omega⟩]
   clear hm hm1 hm2 hm3 hsrc hg4 hb4
   go_wp2_with fail
   refine ⟨trivial, ?_⟩
   refine held_more (is := [8, 9]) (g := 0) (by kernel_rfl) rfl trivial (by kernel_rfl) ?_
   iterate 2
    refine ⟨_, rfl, ?_⟩
    apply Exists.intro
    refine ⟨.inl ⟨by rfl, ?_⟩, ?_⟩
    ·(intro W' hW'; clear hW'; go_simp; try (with_reducible rfl))
    (dsimp only [Act.put]; try simp only [List.setIfInBounds_toArray, List.set_cons_zero, List.set_cons_succ])
   refine wpAnyH_done (by kernel_rfl) ?_ _
   simp only [Only]
   go_wp2_with fail
   go_roundw
   case rel => exact ⟨k + m, by rw [Int.natCast_add], by have := M3.out; omega, by have := M2.out; have := K2.out; omega, G4, B4⟩
   case measure => simp [intOf] <;> (have := M3.out; have := K2.out; omega)
  ·have e1 : k = n := by omega
   subst e1
   go_wp2_with fail
   go_ret
   have hh := HH.out
   subst hh
   refine ⟨rfl, ?_, hB.out⟩
   have := hG.out
   simpa [repS] using this
open Go.Lib (decDigits nDigits)
theorem p_plus (V : World) (x y : Nat) (hx : nDigits x ≤ 4000) (hy : nDigits y ≤ 4000) (h : nDigits (x + y) ≤ 4000) (hL : Lay V) : Calls Tryz.prog 167 #[.string (numB x), .string (numB y)] V fun e w' => e = .returned (.string (numB (x + y))) ∧ Below V.heap.size V w' := by
 have h2 := g_plus V (numB x) (numB y) (numB_sz hx) (numB_sz hy) hL
 rwa [natB_num hx hy h] at h2
theorem p_times (V : World) (x y : Nat) (hx : nDigits x ≤ 4000) (hy : nDigits y ≤ 4000) (h : nDigits (x * y) ≤ 4000) (hL : Lay V) : Calls Tryz.prog 168 #[.string (numB x), .string (numB y)] V fun e w' => e = .returned (.string (numB (x * y))) ∧ Below V.heap.size V w' := by
 have h2 := g_times V (numB x) (numB y) (numB_sz hx) (numB_sz hy) hL
 rwa [natB_num hx hy h] at h2
theorem p_cmp (V : World) (x y : Nat) (hx : nDigits x ≤ 4000) (hy : nDigits y ≤ 4000) : Calls Tryz.prog 228 #[.string (numB x), .string (numB y)] V fun e w' => e = .returned (.int .i64 (ordN x y)) ∧ Below V.heap.size V w' := by
 have h2 := n_Cmp V (numB x) (numB y) (numB_sz hx) (numB_sz hy)
 rwa [cmpN_num hx hy] at h2
theorem p_sub (V : World) (x y : Nat) (hx : nDigits x ≤ 4000) (hy : nDigits y ≤ 4000) (h : y ≤ x) (hL : Lay V) : Calls Tryz.prog 170 #[.string (numB x), .string (numB y)] V fun e w' => e = .returned (.tuple #[.string (numB (x - y)), .int .i64 0]) ∧ Below V.heap.size V w' := by
 have h2 := n_Sub V (numB x) (numB y) (numB_sz hx) (numB_sz hy) hL
 have h3 : ¬ 4000 < nDigits (x - y) := by have := nDigits_mono (show x - y ≤ x by omega); omega
 have e1 : pairB (subB (bN (numB x)) (bN (numB y))) (numB x) (numB y) = numB (x - y) := by
  rw [bN_num, bN_num, pairB, if_pos ⟨errN_numB hx, errN_numB hy⟩, subB, if_neg (by omega), resB, if_neg h3]
 have e2 : pairE (subE (bN (numB x)) (bN (numB y))) (numB x) (numB y) = 0 := by
  rw [bN_num, bN_num, pairE, if_pos (errN_numB hx), if_pos (errN_numB hy), subE, if_neg (by omega), resE, if_neg h3]
 rwa [e1, e2] at h2
theorem make_bools (n : Nat) (h : n ≤ 1000000) (W : World) : (Instr.makeSlice 242 (.int .i64 (n : Int)) (.int .i64 (n : Int))).run Tryz.prog W = .ok (.slice (some ⟨W.heap.size, 0, none⟩) n n) (W.alloc (.cells (madeCells #[.bool false] n) 4)) :=
 run_make_row' (P := Tryz.prog) 242 4 (.bool false) 1 Tryz.underlying242 (by kernel_rfl) rfl .i64 .i64 n (by omega) (by omega) W
theorem made_bools (f : Nat → Bool) (n : Nat) : madeCells #[.bool false] (n + 1) = (tabL f n 0).toArray := by
 rw [tabL_zero]
 apply Array.ext_getElem?
 intro i
 unfold madeCells
 by_cases hi : i < n + 1 <;> simp [hi, Nat.mod_one]
def TwoB (w : World) (H n : Nat) (v u : Value) (f g : List Value) : Prop := ∃ g1 g2, v = .slice (some ⟨g1, 0, none⟩) (n + 1) (n + 1) ∧ u = .slice (some ⟨g2, 0, none⟩) (n + 1) (n + 1) ∧ g1 ≠ g2 ∧ H ≤ g1 ∧ H ≤ g2 ∧ Blk w g1 f.toArray 4 ∧ Blk w g2 g.toArray 4
def SidesOut (w : World) (n N D : Nat) (e : Ending) (w' : World) : Prop := ∃ v u, e = .returned (.tuple #[v, u]) ∧ TwoB w' w.heap.size n v u (allB (oneJ N D) n) (allB (zeroJ N D) n)
theorem lit_zero : ((⟨#[48]⟩ : ByteArray).toList == [48]) = true := by
 rw [Lib.toList_data]; rfl
theorem g_sides (w : World) (a : ByteArray) (n N D : Nat) (ha : a.size ≤ 100000) (he : gPE a = 0) (hn : n ≤ 1000) (hN : bN (cW a) = N) (hD : bN (qD a) = D) (hND : N < D) (hL : Lay w) :
 Calls Tryz.prog 229 #[.string a, .int .i64 n] w fun e w' => SidesOut w n N D e w' ∧ Below w.heap.size w w' := by
 have HR := hid (g_ratio w a ha hL)
 obtain ⟨c1, c2, c3, c4, -⟩ := cPE_ok (gPE_ok he).1
 rw [if_pos he, if_pos he, he] at HR
 rw [c1, c2, hN, hD] at HR
 rw [hN] at c3
 rw [hD] at c4
 have dN : ∀ x, x < 10 ^ (eN + 1) → nDigits x ≤ 4000 := fun x h => numB_small h (by omega) (by unfold eN; omega)
 have hM := fun W => hid (make_bools (n + 1) (by omega) W)
 have HL := hid hL; have HLL := hid hL.lt; have HND := hid hND; have DN := hid dN; have C4 := hid c4; have C3 := hid c3; have HN := hid hn
 have wn : IntKind.i64.wrap ((n : Int) + 1) = ((n + 1 : Nat) : Int) := by rw [IntWalk.i64_in _ ⟨by omega, by omega⟩]; omega
 obtain ⟨sN, hsN⟩ : ∃ s, numB N = s := ⟨_, rfl⟩
 obtain ⟨sD, hsD⟩ : ∃ s, numB D = s := ⟨_, rfl⟩
 rw [hsN, hsD] at HR
 have HSN := hid hsN; have HSD := hid hsD
 clear ha he hn hN hD hND hL c1 c2 c3 c4 dN hsN hsD
 go_enter Tryz.func229, Tryz.ntmps229
 go_wp2_with fail
 refine HR.out.mono ?_; rintro e w1 ⟨rfl, hb1⟩
 have B1 := hid hb1
 clear hb1 HR
 go_upto_region 2 with fail
 go_cut [4, 5] (fun s4 s5 wx => TwoB wx w.heap.size n s4 s5 (tabL (oneJ N D) n 0) (tabL (zeroJ N D) n 0) ∧ Below w.heap.size w wx)
 case first =>
  have X := fun (g1 g2 : Nat) (W : World) (h1 : Blk W g1 (madeCells #[.bool false] (n + 1)) 4) (h2 : Blk W g2 (madeCells #[.bool false] (n + 1)) 4) (h3 : g1 ≠ g2) (h4 : w.heap.size ≤ g1) (h5 : w.heap.size ≤ g2) => hid (show TwoB W w.heap.size n (.slice (some ⟨g1, 0, none⟩) (n + 1) (n + 1)) (.slice (some ⟨g2, 0, none⟩) (n + 1) (n + 1)) (tabL (oneJ N D) n 0) (tabL (zeroJ N D) n 0) from ⟨g1, g2, rfl, rfl, h3, h4, h5, by rw [← made_bools]; exact h1, by rw [← made_bools]; exact h2⟩)
  have M1 : ∀ W, (Instr.makeSlice 242 (.int .i64 ((n : Int) + 1)) (.int .i64 ((n : Int) + 1))).run Tryz.prog W = .ok (.slice (some ⟨W.heap.size, 0, none⟩) (n + 1) (n + 1)) (W.alloc (.cells (madeCells #[.bool false] (n + 1)) 4)) := fun W => (hM W).out
  clear hM
  go_region
  all_goals
   go_wp2_with fail
   go_meet
   first
    | exact ⟨(X w1.heap.size (w1.heap.size + 1) _ ((Blk.new w1 _ _).alloc _) (Blk.made _ _ _ (by simp)) (by omega) B1.out.size (by have := B1.out.size; omega)).out, (((B1.out.alloc B1.out.size _).alloc (by have := B1.out.size; simp; omega) _)).drew⟩
    | exact ⟨(X (w1.heap.size + 1) w1.heap.size _ (Blk.made _ _ _ (by simp)) ((Blk.new w1 _ _).alloc _) (by omega) (by have := B1.out.size; omega) B1.out.size).out, (((B1.out.alloc B1.out.size _).alloc (by have := B1.out.size; simp; omega) _)).drew⟩
 case rest =>
  obtain ⟨⟨g1, g2, rfl, rfl, h3, h4, h5, hb1, hb2⟩, hB⟩ := hcut
  have G1 := hid hb1; have G2 := hid hb2; have B2 := hid hB; have H3 := hid h3; have H4 := hid h4; have H5 := hid h5
  have k0 : wc.cell? ⟨g2, 0, none⟩ = some (.bool false) := by
   refine (hb2.cell 0).trans ?_
   rw [List.getElem?_toArray, tabL_get (Nat.zero_le _)]; simp
  have k1 := hb2.free 0
  have z0 : (0 : Int) < ((n + 1 : Nat) : Int) := by omega
  have z1 : (0 : Int) < (n : Int) + 1 := by omega
  obtain ⟨z, hz⟩ : ∃ z, (sN.toList == [48]) = z := ⟨_, rfl⟩
  have HZ : Hid (z = decide (N = 0)) := by
   show z = decide (N = 0)
   rw [← hz]
   by_cases h0 : N = 0
   ·rw [← HSN.out, h0, numB_zero, lit_zero]; simp
   ·rw [← HSN.out, ne_lit (l := [48]) (by rw [← numB_zero]; exact numB_ne h0)]
    simp [h0]
  clear hb1 hb2 hB hM h3 h4 h5
  go_wp2_with fail
  obtain ⟨W3, hW3⟩ : ∃ W, wc.setCell ⟨g2, 0, none⟩ (.bool z) = W := ⟨_, rfl⟩
  have G3 : Blk W3 g1 (tabL (oneJ N D) n 1).toArray 4 := by
   rw [← hW3, tabL_skip (f := oneJ N D) (j := 0) rfl]
   exact G1.out.other (fun e => H3.out e.symm) _
  have G4 : Blk W3 g2 (tabL (zeroJ N D) n 1).toArray 4 := by
   have h := G2.out.set 0 (.bool z)
   rw [hW3, List.setIfInBounds_toArray, HZ.out] at h
   have h2 := tabL_set (f := zeroJ N D) (n := n) (j := 0) (Nat.zero_le _)
   rw [← h2]
   exact h
  have B3 : Below w.heap.size w W3 := by rw [← hW3]; exact B2.out.setCell H5.out _
  rw [hW3]
  have HG3 := hid G3; have HG4 := hid G4; have HB3 := hid B3
  have e0 : Hid ((!z) = (sdx N D 0).2) := by show (!z) = _; rw [HZ.out]; simp [sdx]
  clear k0 k1 hz z0 z1 G3 G4 B3 hW3 G1 G2 B2 B1
  go_loopw [9, 10, 11] (fun o x j wr => ∃ i : Nat, j = .int .i64 ((i + 1 : Nat) : Int) ∧ i ≤ n ∧ o = .bool (sdx N D i).2 ∧ x = .string (numB (sdx N D i).1) ∧ Hid (Blk wr g1 (tabL (oneJ N D) n (i + 1)).toArray 4) ∧ Hid (Blk wr g2 (tabL (zeroJ N D) n (i + 1)).toArray 4) ∧ Hid (Below w.heap.size w wr)) (fun o x j wr => n + 1 - (intOf j).toNat)
  case atStart => exact ⟨0, rfl, Nat.zero_le _, by rw [e0.out], by rw [HSN.out.symm]; rfl, HG3.out, HG4.out, HB3.out⟩
  case round =>
   obtain ⟨i, rfl, hi, rfl, rfl, hg1, hg2, hB⟩ := hrel
   cases ho : (sdx N D i).2
   ·have GG1 : Blk wr g1 (allB (oneJ N D) n).toArray 4 := by
     rw [← tabL_full (oneJ N D) n (j := n + 1) (by omega), tabL_shut (j := i + 1) (fun k hk => oneJ_shut ho k (by omega)) (n + 1) (by omega)]
     exact hg1.out
    have GG2 : Blk wr g2 (allB (zeroJ N D) n).toArray 4 := by
     rw [← tabL_full (zeroJ N D) n (j := n + 1) (by omega), tabL_shut (j := i + 1) (fun k hk => zeroJ_shut ho k (by omega)) (n + 1) (by omega)]
     exact hg2.out
    have GG1 := hid GG1; have GG2 := hid GG2
    clear ho hi
    go_wp2_with fail
    all_goals
     go_ret2
     exact ⟨⟨_, _, rfl, ⟨g1, g2, rfl, rfl, H3.out, H4.out, H5.out, GG1.out, GG2.out⟩⟩, hB.out⟩
   ·by_cases hlt : i + 1 ≤ n
    ·obtain ⟨X, hX⟩ : ∃ X, (sdx N D i).1 = X := ⟨_, rfl⟩
     have hXD : X < D := hX ▸ sdx_lt HND.out i
     have hs : sdx N D (i + 1) = if D ≤ 2 * X then (2 * X - D, decide (2 * X ≠ D)) else (2 * X, true) := by rw [sdx, if_pos ho, hX]
     have h1 : oneJ N D (i + 1) = decide (D ≤ 2 * X) := by rw [oneJ, ho, hX]; rfl
     have h0 : zeroJ N D (i + 1) = decide (2 * X ≤ D) := by rw [zeroJ, ho, hX]; rfl
     have p10 : (10 : Nat) ^ (eN + 1) = 10 * 10 ^ eN := by rw [Nat.pow_succ, Nat.mul_comm]
     have q10 := C4.out
     have d1 : nDigits X ≤ 4000 := DN.out X (by omega)
     have d2 : nDigits (X + X) ≤ 4000 := DN.out _ (by omega)
     have d3 : nDigits D ≤ 4000 := DN.out _ (by omega)
     have HPL := fun V hV => hid (p_plus V X X d1 d1 d2 hV)
     have HCM := fun V => hid (p_cmp V (X + X) D d2 d3)
     rw [HSD.out] at HCM
     rw [hX]
     have k1 : wr.cell? ⟨g1, i + 1, none⟩ = some (.bool false) := by
      refine (hg1.out.cell (i + 1)).trans ?_
      rw [List.getElem?_toArray, tabL_get hlt]; simp
     have k2 : wr.cell? ⟨g2, i + 1, none⟩ = some (.bool false) := by
      refine (hg2.out.cell (i + 1)).trans ?_
      rw [List.getElem?_toArray, tabL_get hlt]; simp
     have f0 : (0 : Int) ≤ ((i + 1 : Nat) : Int) := by omega
     have f1 : ((i + 1 : Nat) : Int) < ((n + 1 : Nat) : Int) := by omega
     have f2 : decide (((i + 1 : Nat) : Int) ≤ (n : Int)) = true := by simp; omega
     have f3 : ((i + 1 : Nat) : Int) ≤ 1000 := by have := HN.out; omega
     have f4 : (i : Int) ≤ 1000 := by have := HN.out; omega
     have HLT := hid hlt
     rcases Nat.lt_trichotomy (X + X) D with hc | hc | hc
     ·rw [ordN_lt hc] at HCM
      have HS := hid (show sdx N D (i + 1) = (X + X, true) from by rw [hs, if_neg (by omega), Nat.two_mul])
      have T1 := hid (tabL_skip (n := n) (show oneJ N D (i + 1) = false from by rw [h1]; simp; omega))
      have T0 := hid (tabL_set (f := zeroJ N D) hlt)
      have HZ0 := hid (show zeroJ N D (i + 1) = true from by rw [h0]; simp; omega)
      clear hc hs h1 h0 p10 q10 d1 d2 d3 hX hXD ho hi
      go_wp2_with fail
      refine (HPL _ (HL.out.below hB.out HLL.out)).out.mono ?_; rintro e w5 ⟨rfl, hb5⟩
      have G15 := hid (hg1.out.call hb5); have G25 := hid (hg2.out.call hb5); have B5 := hid (hB.out.trans (hb5.mono hB.out.size))
      clear hb5
      go_wp2_with fail
      refine (HCM _).out.mono ?_; rintro e w6 ⟨rfl, hb6⟩
      have G16 := hid (G15.out.call hb6); have G26 := hid (G25.out.call hb6); have B6 := hid (B5.out.trans (hb6.mono B5.out.size))
      have m1 : w6.cell? ⟨g1, i + 1, none⟩ = some (.bool false) := by
       refine (G16.out.cell (i + 1)).trans ?_
       rw [List.getElem?_toArray, tabL_get hlt]; simp
      have m2 : w6.cell? ⟨g2, i + 1, none⟩ = some (.bool false) := by
       refine (G26.out.cell (i + 1)).trans ?_
       rw [List.getElem?_toArray, tabL_get hlt]; simp
      have m3 := G16.out.free (i + 1)
      have m4 := G26.out.free (i + 1)
      clear hb6 hlt k1 k2
      go_wp2_with fail
      go_roundw
      case rel =>
       refine ⟨i + 1, by go_num, HLT.out, by rw [HS.out], by rw [HS.out], ?_, ?_, B6.out.setCell H5.out _⟩
       ·show Blk _ _ _ _
        rw [T1.out]
        exact G16.out.other (fun e => H3.out e.symm) _
       ·show Blk _ _ _ _
        rw [← T0.out, HZ0.out]
        have h := G26.out.set (i + 1) (.bool true)
        rw [List.setIfInBounds_toArray] at h
        exact h
      case measure => simp [intOf] <;> (have := HLT.out; omega)
     ·rw [show ordN (X + X) D = 0 from by rw [hc, ordN_eq]] at HCM
      have hle : D ≤ X + X := by omega
      have HSU := fun V hV => hid (p_sub V (X + X) D d2 d3 hle hV)
      rw [HSD.out] at HSU
      have HS := hid (show sdx N D (i + 1) = (X + X - D, false) from by rw [hs, if_pos (by omega), Nat.two_mul]; simp; omega)
      have T1 := hid (tabL_set (f := oneJ N D) hlt)
      have HZ1 := hid (show oneJ N D (i + 1) = true from by rw [h1]; simp; omega)
      have T0 := hid (tabL_set (f := zeroJ N D) hlt)
      have HZ0 := hid (show zeroJ N D (i + 1) = true from by rw [h0]; simp; omega)
      clear hc hs h1 h0 p10 q10 d1 d2 d3 hX hXD ho hi hle
      go_wp2_with fail
      refine (HPL _ (HL.out.below hB.out HLL.out)).out.mono ?_; rintro e w5 ⟨rfl, hb5⟩
      have G15 := hid (hg1.out.call hb5); have G25 := hid (hg2.out.call hb5); have B5 := hid (hB.out.trans (hb5.mono hB.out.size))
      clear hb5
      go_wp2_with fail
      refine (HCM _).out.mono ?_; rintro e w6 ⟨rfl, hb6⟩
      have G16 := hid (G15.out.call hb6); have G26 := hid (G25.out.call hb6); have B6 := hid (B5.out.trans (hb6.mono B5.out.size))
      have m1 : w6.cell? ⟨g1, i + 1, none⟩ = some (.bool false) := by
       refine (G16.out.cell (i + 1)).trans ?_
       rw [List.getElem?_toArray, tabL_get hlt]; simp
      have m2 : w6.cell? ⟨g2, i + 1, none⟩ = some (.bool false) := by
       refine (G26.out.cell (i + 1)).trans ?_
       rw [List.getElem?_toArray, tabL_get hlt]; simp
      have m3 := G16.out.free (i + 1)
      have m4 := G26.out.free (i + 1)
      clear hb6 hlt k1 k2
      go_wp2_with fail
      refine (HSU _ (HL.out.below B6.out HLL.out)).out.mono ?_; rintro e w7 ⟨rfl, hb7⟩
      have G17 := hid (G16.out.call hb7); have G27 := hid (G26.out.call hb7); have B7 := hid (B6.out.trans (hb7.mono B6.out.size))
      have n1 := (hb7.cell (cell_lt m1)).trans m1
      have n3 := G17.out.free (i + 1)
      have n2 : (w7.setCell ⟨g1, i + 1, none⟩ (.bool true)).cell? ⟨g2, i + 1, none⟩ = some (.bool false) := ((G27.out.other (fun e => H3.out e) (.bool true)).cell (i + 1)).trans (by rw [List.getElem?_toArray, tabL_get HLT.out]; simp)
      have n4 : (w7.setCell ⟨g1, i + 1, none⟩ (.bool true)).frozen? ⟨g2, i + 1, none⟩ = false := (G27.out.other (a := ⟨g1, i + 1, none⟩) (fun e => H3.out e) (.bool true)).free (i + 1)
      clear hb7 m1 m2 m3 m4
      go_wp2_with fail
      go_roundw
      case rel =>
       refine ⟨i + 1, by go_num, HLT.out, by rw [HS.out], by rw [HS.out], ?_, ?_, ((B7.out.setCell H4.out _).setCell H5.out _)⟩
       ·show Blk _ _ _ _
        rw [← T1.out, HZ1.out]
        have h := (G17.out.set (i + 1) (.bool true)).other (a := ⟨g2, i + 1, none⟩) (fun e => H3.out e.symm) (.bool true)
        rw [List.setIfInBounds_toArray] at h
        exact h
       ·show Blk _ _ _ _
        rw [← T0.out, HZ0.out]
        have h := (G27.out.other (a := ⟨g1, i + 1, none⟩) (fun e => H3.out e) (.bool true)).set (i + 1) (.bool true)
        rw [List.setIfInBounds_toArray] at h
        exact h
      case measure => simp [intOf] <;> (have := HLT.out; omega)
     ·rw [ordN_gt hc] at HCM
      have hle : D ≤ X + X := by omega
      have HSU := fun V hV => hid (p_sub V (X + X) D d2 d3 hle hV)
      rw [HSD.out] at HSU
      have HS := hid (show sdx N D (i + 1) = (X + X - D, true) from by rw [hs, if_pos (by omega), Nat.two_mul]; simp; omega)
      have T1 := hid (tabL_set (f := oneJ N D) hlt)
      have HZ1 := hid (show oneJ N D (i + 1) = true from by rw [h1]; simp; omega)
      have T0 := hid (tabL_set (f := zeroJ N D) hlt)
      have HZ0 := hid (show zeroJ N D (i + 1) = false from by rw [h0]; simp; omega)
      clear hc hs h1 h0 p10 q10 d1 d2 d3 hX hXD ho hi hle
      go_wp2_with fail
      refine (HPL _ (HL.out.below hB.out HLL.out)).out.mono ?_; rintro e w5 ⟨rfl, hb5⟩
      have G15 := hid (hg1.out.call hb5); have G25 := hid (hg2.out.call hb5); have B5 := hid (hB.out.trans (hb5.mono hB.out.size))
      clear hb5
      go_wp2_with fail
      refine (HCM _).out.mono ?_; rintro e w6 ⟨rfl, hb6⟩
      have G16 := hid (G15.out.call hb6); have G26 := hid (G25.out.call hb6); have B6 := hid (B5.out.trans (hb6.mono B5.out.size))
      have m1 : w6.cell? ⟨g1, i + 1, none⟩ = some (.bool false) := by
       refine (G16.out.cell (i + 1)).trans ?_
       rw [List.getElem?_toArray, tabL_get hlt]; simp
      have m2 : w6.cell? ⟨g2, i + 1, none⟩ = some (.bool false) := by
       refine (G26.out.cell (i + 1)).trans ?_
       rw [List.getElem?_toArray, tabL_get hlt]; simp
      have m3 := G16.out.free (i + 1)
      have m4 := G26.out.free (i + 1)
      clear hb6 hlt k1 k2
      go_wp2_with fail
      refine (HSU _ (HL.out.below B6.out HLL.out)).out.mono ?_; rintro e w7 ⟨rfl, hb7⟩
      have G17 := hid (G16.out.call hb7); have G27 := hid (G26.out.call hb7); have B7 := hid (B6.out.trans (hb7.mono B6.out.size))
      have n1 := (hb7.cell (cell_lt m1)).trans m1
      have n3 := G17.out.free (i + 1)
      have n2 : (w7.setCell ⟨g1, i + 1, none⟩ (.bool true)).cell? ⟨g2, i + 1, none⟩ = some (.bool false) := ((G27.out.other (fun e => H3.out e) (.bool true)).cell (i + 1)).trans (by rw [List.getElem?_toArray, tabL_get HLT.out]; simp)
      have n4 : (w7.setCell ⟨g1, i + 1, none⟩ (.bool true)).frozen? ⟨g2, i + 1, none⟩ = false := (G27.out.other (a := ⟨g1, i + 1, none⟩) (fun e => H3.out e) (.bool true)).free (i + 1)
      clear hb7 m1 m2 m3 m4
      go_wp2_with fail
      go_roundw
      case rel =>
       refine ⟨i + 1, by go_num, HLT.out, by rw [HS.out], by rw [HS.out], ?_, ?_, ((B7.out.setCell H4.out _).setCell H5.out _)⟩
       ·show Blk _ _ _ _
        rw [← T1.out, HZ1.out]
        have h := (G17.out.set (i + 1) (.bool true)).other (a := ⟨g2, i + 1, none⟩) (fun e => H3.out e.symm) (.bool false)
        rw [List.setIfInBounds_toArray] at h
        exact h
       ·show Blk _ _ _ _
        rw [← T0.out, HZ0.out]
        have h := (G27.out.other (a := ⟨g1, i + 1, none⟩) (fun e => H3.out e) (.bool true)).set (i + 1) (.bool false)
        rw [List.setIfInBounds_toArray] at h
        exact h
      case measure => simp [intOf] <;> (have := HLT.out; omega)
    ·have e1 : i = n := by omega
     subst e1
     have f2 : decide (((i + 1 : Nat) : Int) ≤ (i : Int)) = false := by simp; omega
     have GG1 : Blk wr g1 (allB (oneJ N D) i).toArray 4 := by
      rw [← tabL_full (oneJ N D) i (j := i + 1) (by omega)]
      exact hg1.out
     have GG2 : Blk wr g2 (allB (zeroJ N D) i).toArray 4 := by
      rw [← tabL_full (zeroJ N D) i (j := i + 1) (by omega)]
      exact hg2.out
     have GG1 := hid GG1; have GG2 := hid GG2
     clear ho hi hlt
     go_wp2_with fail
     go_ret2
     exact ⟨⟨_, _, rfl, ⟨g1, g2, rfl, rfl, H3.out, H4.out, H5.out, GG1.out, GG2.out⟩⟩, hB.out⟩
def NRowT (w : World) (g : Nat) (l : List Nat) : Prop := Blk w g (numL l).toArray 22
theorem NRowT.cell {w : World} {g : Nat} {l : List Nat} (h : NRowT w g l) {i : Nat} (hi : i < l.length) : w.cell? ⟨g, i, none⟩ = some (.string (numB (l.getD i 0))) := by
 refine (Blk.cell h i).trans ?_
 rw [List.getElem?_toArray, numL_get hi]
theorem NRowT.free {w : World} {g : Nat} {l : List Nat} (h : NRowT w g l) (i : Nat) : w.frozen? ⟨g, i, none⟩ = false := Blk.free h i
theorem NRowT.set {w : World} {g : Nat} {l : List Nat} (h : NRowT w g l) (i x : Nat) : NRowT (w.setCell ⟨g, i, none⟩ (.string (numB x))) g (l.set i x) := by
 have := Blk.set h i (.string (numB x))
 rw [List.setIfInBounds_toArray, numL_set] at this
 exact this
theorem NRowT.call {w w' : World} {g : Nat} {l : List Nat} (h : NRowT w g l) (hb : Below w.heap.size w w') : NRowT w' g l := Blk.call h hb
theorem NRowT.other {w : World} {g : Nat} {l : List Nat} (h : NRowT w g l) {a : Addr} (ha : a.block ≠ g) (v : Value) : NRowT (w.setCell a v) g l := Blk.other h ha v
theorem NRowT.zeros {w : World} {g n : Nat} (h : Blk w g (strsR (List.replicate n ⟨#[48]⟩)).toArray 22) : NRowT w g (List.replicate n 0) := by
 have e : numL (List.replicate n 0) = strsR (List.replicate n ⟨#[48]⟩) := by
  unfold numL strsR
  rw [List.map_replicate, List.map_replicate, numB_zero]
 unfold NRowT
 rw [e]; exact h
open Go.Shelf
theorem g_power (w : World) (n : Nat) (hn : n ≤ 1000) (hL : Lay w) :
 Calls Tryz.prog 169 #[.int .i64 n] w fun e w' => e = .returned (.string (numB (2 ^ n))) ∧ Below w.heap.size w w' := by
 have HP := hid (n_Pow_ok w ⟨#[50]⟩ n errN_two (by omega) (by rw [bN_two]; exact two_digits hn) hL)
 rw [bN_two] at HP
 clear hn hL
 go_enter Tryz.func169, Tryz.ntmps169
 go_wp2_with fail
 refine HP.out.mono ?_; rintro e w1 ⟨rfl, hb1⟩
 have b1 := hid hb1; clear hb1
 go_wp2_with fail
 go_ret
 exact ⟨rfl, b1.out⟩
end Go.Proofs.YtckihjfkafdncaaGreatDoor
namespace Go.Proofs.YtckihjfkafdncaaGreatDoor
open Go.RowKit
def drT (N D : Nat) (two : Bool) (l : List UInt8) : Bool × Int × Int := if two = true then twoT N D l else oneT N D l
theorem drT_is {N D : Nat} (h : N < D) (two : Bool) (l : List UInt8) : ∃ u : Nat, u ≤ l.length ∧ ((valT N D two l = none ∧ drT N D two l = (false, 0, (u : Int))) ∨ (∃ v : Int, -(l.length : Int) ≤ v ∧ v ≤ l.length ∧ valT N D two l = some v ∧ drT N D two l = (true, v, (u : Int)))) := by
 have hb := fun v hv => valT_bd h (two := two) (l := l) (v := v) hv
 unfold valT at hb
 unfold valT drT oneT twoT
 cases hs : s1 N D l 0 0 with
 | none => exact ⟨l.length, Nat.le_refl _, .inl ⟨rfl, by cases two <;> rfl⟩⟩
 | some xp =>
  obtain ⟨x, p⟩ := xp
  obtain ⟨b1, b2⟩ := s1_bd h hs
  rw [hs] at hb
  cases two
  ·exact ⟨p, b1, .inr ⟨x, (hb _ rfl).1, (hb _ rfl).2, rfl, rfl⟩⟩
  ·simp only [if_true] at hb ⊢
   have hd := s1_drop h (l := l) (a := p) b1 l.length 0 0 (by omega) (by omega)
   rw [Nat.add_zero] at hd
   rw [hd]
   cases hs2 : s1 N D (l.drop p) 0 0 with
   | none => exact ⟨l.length, Nat.le_refl _, .inl ⟨rfl, rfl⟩⟩
   | some yq =>
    obtain ⟨y, q⟩ := yq
    obtain ⟨b3, b4⟩ := s1_bd h hs2
    rw [List.length_drop] at b3
    rw [hs2] at hb
    exact ⟨p + q, by omega, .inr ⟨(x : Int) - (y : Int), (hb _ rfl).1, (hb _ rfl).2, rfl, rfl⟩⟩
def zs (l : List Int) : List Value := l.map (Value.int .i64)
@[simp] theorem zs_length (l : List Int) : (zs l).length = l.length := by simp [zs]
theorem zs_get {l : List Int} {i : Nat} {x : Int} (h : l[i]? = some x) : (zs l)[i]? = some (.int .i64 x) := by simp [zs, h]
theorem Row.openZ {w : World} {v : Value} {l : List Int} (h : Row w v (zs l)) : ∃ a c, v = .slice a l.length c ∧ l.length ≤ c ∧ c ≤ 9223372036854775807 ∧ ∀ (i : Nat) (x : Int), l[i]? = some x → ∃ g o, a = some ⟨g, o, none⟩ ∧ g < w.heap.size ∧ w.cell? ⟨g, o + i, none⟩ = some (.int .i64 x) := by
 obtain ⟨a, c, rfl, h1, h2, h3⟩ := h.ex
 rw [zs_length] at *
 exact ⟨a, c, rfl, h1, by unfold maxLen at h2; omega, fun i x hx => h3 i _ (zs_get hx)⟩
open Go.Shelf
open Go.Lib (decDigits nDigits)
def wildB (u : Int) : Bool := decide (u < -1125899906842624) || decide (1125899906842624 < u)
def idxZ (p : Int → Bool) (l : List Int) : Int := if l.any p = true then (l.findIdx p : Nat) else -1
theorem s_IndexFuncI (w : World) (v : Value) (l : List Int) (F : Nat) (p : Int → Bool) (hv : Row w v (zs l)) (hl : l.length ≤ 9223372036854775807) (hen : ∀ args w, (callFunc F args).run Tryz.prog w = .ok (.enter F args) w)
 (hF : ∀ W x, Calls Tryz.prog F #[.int .i64 x] W fun e w' => e = .returned (.bool (p x)) ∧ W = w') :
 Calls Tryz.prog 126 #[v, .func (.func F) #[] #[]] w fun e w' => e = .returned (.int .i64 (idxZ p l)) ∧ w = w' := by
 obtain ⟨a, c, rfl, q1, q2, q3⟩ := hv.openZ
 obtain ⟨n, hn⟩ : ∃ n, l.length = n := ⟨_, rfl⟩
 rw [hn] at q1 hl ⊢
 have HN := hid hn; have Q3 := hid q3; have HF := hid hF
 clear hv q3 hn hF
 go_enter Tryz.func126, Tryz.ntmps126
 go_wp2_with fail
 go_loop [8] (fun ii => ∃ i : Nat, ii = .int .i64 i ∧ i ≤ n ∧ Hid (∀ j x, j < i → l[j]? = some x → p x = false)) (fun ii => n - (intOf ii).toNat)
 case atStart => exact ⟨0, rfl, Nat.zero_le _, fun j x hj => absurd hj (by omega)⟩
 case round =>
  obtain ⟨i, rfl, hi, hI⟩ := hrel
  by_cases hlt : i < n
  ·obtain ⟨x, hx⟩ : ∃ x, l[i]? = some x := ⟨_, List.getElem?_eq_getElem (by rw [HN.out]; exact hlt)⟩
   obtain ⟨g, o, rfl, hg, hc⟩ := Q3.out i x hx
   have HX := hid hx
   have b1 : (0 : Int) ≤ (i : Int) := by omega
   have b2 : (i : Int) < (n : Int) := by omega
   have wi : IntKind.i64.wrap ((i : Int) + 1) = ((i + 1 : Nat) : Int) := by rw [IntWalk.i64_in _ ⟨by omega, by omega⟩]; omega
   obtain ⟨z, hz⟩ : ∃ z, p x = z := ⟨_, rfl⟩
   have C := fun W => hid (hz ▸ HF.out W x)
   have HZ := hid hz
   clear hx hz
   go_wp2_with fail
   refine (C _).out.mono ?_; rintro e w1 ⟨rfl, rfl⟩
   cases z
   ·go_wp2_with fail
    go_round
    case rel => exact ⟨i + 1, by go_num, by omega, fun j y hj hy => by
     rcases Nat.lt_or_ge j i with h | h
     ·exact hI.out j y h hy
     ·obtain rfl : j = i := by omega
      rw [HX.out] at hy; cases hy; exact HZ.out⟩
    case measure => simp [intOf] <;> omega
   ·have hA : l.any p = true := List.any_eq_true.2 ⟨x, List.mem_of_getElem? HX.out, HZ.out⟩
    have hfi : l.findIdx p = i := by
     have hil : i < l.length := by rw [HN.out]; exact hlt
     rw [List.findIdx_eq hil]
     refine ⟨?_, fun j hj => ?_⟩
     ·have := HX.out; rw [List.getElem?_eq_getElem hil] at this; rw [Option.some.inj this]; exact HZ.out
     ·exact hI.out j _ hj (List.getElem?_eq_getElem (Nat.lt_trans hj hil))
    have HE := hid (show idxZ p l = (i : Int) from by rw [idxZ, if_pos hA, hfi])
    clear hA hfi
    go_wp2_with fail
    go_ret
    exact ⟨by rw [HE.out]; rfl, rfl⟩
  ·obtain rfl : i = n := by omega
   have hA : ¬ l.any p = true := fun h => by
    obtain ⟨x, hx, hp⟩ := List.any_eq_true.1 h
    obtain ⟨j, hj⟩ := List.getElem?_of_mem hx
    have := hI.out j x (by rw [← HN.out]; exact (List.getElem?_eq_some_iff.1 hj).1) hj
    rw [this] at hp; cases hp
   have HE := hid (show idxZ p l = -1 from by rw [idxZ, if_neg hA])
   have q0 : decide ((i : Int) < (i : Int)) = false := by simp
   clear hA hlt
   go_wp2_with fail
   go_ret
   exact ⟨by rw [HE.out]; rfl, rfl⟩
theorem s_ContainsFuncI (w : World) (v : Value) (l : List Int) (F : Nat) (p : Int → Bool) (hv : Row w v (zs l)) (hl : l.length ≤ 9223372036854775807) (hen : ∀ args w, (callFunc F args).run Tryz.prog w = .ok (.enter F args) w)
 (hF : ∀ W x, Calls Tryz.prog F #[.int .i64 x] W fun e w' => e = .returned (.bool (p x)) ∧ W = w') :
 Calls Tryz.prog 77 #[v, .func (.func F) #[] #[]] w fun e w' => e = .returned (.bool (l.any p)) ∧ w = w' := by
 have HI := hid (s_IndexFuncI w v l F p hv hl hen hF)
 have HB := hid (show decide (0 ≤ idxZ p l) = l.any p from by
  unfold idxZ
  cases h : l.any p
  ·rw [if_neg (by simp)]; rfl
  ·rw [if_pos rfl]; simp)
 rw [← HB.out]
 obtain ⟨a, c, rfl, -⟩ := hv.openZ
 generalize idxZ p l = z at *
 clear hF hv
 go_enter Tryz.func77, Tryz.ntmps77
 go_wp2_with fail
 refine HI.out.mono ?_; rintro e w1 ⟨rfl, rfl⟩
 go_wp2_with fail
 go_ret
 exact ⟨rfl, rfl⟩
end Go.Proofs.YtckihjfkafdncaaGreatDoor
namespace Go.Proofs.YtckihjfkafdncaaGreatDoor
open Go.RowKit
open Go.Lib (decDigits nDigits)
theorem gE_empty (a : ByteArray) : gE a ⟨#[]⟩ = gPE a := by
 unfold gE
 split
 ·rfl
 ·rename_i h
  have : gPE a = 0 := Classical.byContradiction h
  rw [this]; decide
theorem chkE_err (s : ByteArray) : chkE s = if bitE s ≠ 0 then bitE s else if 256 < s.size then 4 else 0 := by
 unfold chkE bitE
 split <;> rfl
def bsE : List ByteArray → Int
 | [] => 0
 | s :: r => if chkE s ≠ 0 then chkE s else bsE r
def wdE (l : List ByteArray) (m : Int) : Int := if (l.length : Int) = m then bsE l else 16
theorem bsE_at : ∀ {l : List ByteArray} {i : Nat}, (∀ (j : Nat) (b : ByteArray), j < i → l[j]? = some b → chkE b = 0) → bsE l = bsE (l.drop i)
 | [], i, _ => by simp [bsE]
 | b :: r, 0, _ => rfl
 | b :: r, i + 1, h => by
  have h1 := h 0 b (by omega) rfl
  have h3 := bsE_at (l := r) (i := i) (fun j c hj hc => h (j + 1) c (by omega) (by simpa using hc))
  rw [bsE, if_neg (by simp [h1]), h3]
  rfl
theorem bsE_zero : ∀ {l : List ByteArray}, bsE l = 0 ↔ ∀ b ∈ l, chkE b = 0
 | [] => by simp [bsE]
 | b :: r => by
  rw [bsE]
  by_cases h : chkE b = 0
  ·rw [if_neg (by simp [h]), bsE_zero]
   simp [h]
  ·rw [if_pos h]
   simp [h]
def zE (c : List Int) : Int := if 256 < c.length then 4 else if c.any wildB = true then 2 else 0
def ctE (c : List Int) : Int := if c.length = 0 then 2 else zE c
def qnE (c : List Int) (a : ByteArray) : Int := if ctE c ≠ 0 then ctE c else gPE a
def nz1 (two : Bool) (a : ByteArray) (n : Int) (b : ByteArray) : Option Int := let t := if two = true then wT a b else oT a b; if t.1 = true then some (n + t.2.1) else none
def nzO (two : Bool) (a : ByteArray) : List Int → List ByteArray → Option (List Int)
 | c :: cs, b :: bs => (nz1 two a c b).bind fun x => (nzO two a cs bs).map (x :: ·)
 | _, _ => some []
theorem nz1_val {a b : ByteArray} (two : Bool) (he : gPE a = 0) (hb : chkE b = 0) (n : Int) : nz1 two a n b = (valT (bN (cW a)) (bN (qD a)) two b.data.toList).map (n + ·) := by
 have hg : gE a b = 0 := by unfold gE; rw [if_neg (by rw [he]; simp)]; exact hb
 have hND := (gPE_ok he).2
 obtain ⟨u, _, h⟩ := drT_is hND two b.data.toList
 have e : (if two = true then wT a b else oT a b) = drT (bN (cW a)) (bN (qD a)) two b.data.toList := by
  unfold wT oT drT
  rw [if_pos hg, if_pos hg]
 unfold nz1
 rw [e]
 rcases h with ⟨h1, h2⟩ | ⟨v, -, -, h1, h2⟩
 ·rw [h1, h2]; rfl
 ·rw [h1, h2]; rfl
theorem oT_bound (a b : ByteArray) (hb : b.size ≤ 256) : -256 ≤ (oT a b).2.1 ∧ (oT a b).2.1 ≤ 256 := by
 unfold oT
 split
 ·rename_i h
  have he : gPE a = 0 := by
   unfold gE at h
   split at h
   ·rename_i h2; exact absurd h h2
   ·rename_i h2; exact Classical.byContradiction h2
  have hl : b.data.toList.length = b.size := list_size b
  obtain ⟨u, _, h2⟩ := drT_is (gPE_ok he).2 false b.data.toList
  have e : oneT (bN (cW a)) (bN (qD a)) b.data.toList = drT (bN (cW a)) (bN (qD a)) false b.data.toList := rfl
  rw [e]
  rcases h2 with ⟨-, h2⟩ | ⟨v, h3, h4, -, h2⟩
  ·rw [h2]; simp
  ·rw [h2]; simp; omega
 ·simp
def pkE (c : List Int) (a : ByteArray) (b : List ByteArray) : Int := if qnE c a ≠ 0 then qnE c a else wdE b c.length
def pkA (c : List Int) (a : ByteArray) (b : List ByteArray) : Int × Bool := if pkE c a b = 0 then (match nzO false a c b with | none => (0, false) | some l => ((amx l : Nat), true)) else (0, false)
theorem nzO_length {two : Bool} {a : ByteArray} : ∀ {c : List Int} {b : List ByteArray} {l : List Int}, c.length = b.length → nzO two a c b = some l → l.length = c.length
 | [], [], l, _, h => by cases h; rfl
 | c :: cs, b :: bs, l, hl, h => by
  rw [nzO] at h
  cases h1 : nz1 two a c b with
  | none => rw [h1] at h; cases h
  | some x =>
   rw [h1] at h
   cases h2 : nzO two a cs bs with
   | none => rw [h2] at h; cases h
   | some r =>
    rw [h2] at h
    cases h
    rw [List.length_cons, nzO_length (by simpa using hl) h2, List.length_cons]
theorem nzO_late {two : Bool} {a : ByteArray} : ∀ {c : List Int} {b : List ByteArray} (k : Nat) (x : Int) (y : ByteArray), c[k]? = some x → b[k]? = some y → nz1 two a x y = none → nzO two a c b = none
 | c :: cs, b :: bs, 0, x, y, h1, h2, h3 => by
  cases h1; cases h2
  rw [nzO, h3]; rfl
 | c :: cs, b :: bs, k + 1, x, y, h1, h2, h3 => by
  rw [nzO, nzO_late k x y (by simpa using h1) (by simpa using h2) h3]
  cases nz1 two a c b <;> rfl
theorem nzO_all {two : Bool} {a : ByteArray} : ∀ {c : List Int} {b : List ByteArray} {l : List Int}, c.length = b.length → l.length = c.length → (∀ (k : Nat) (x : Int) (y : ByteArray), c[k]? = some x → b[k]? = some y → nz1 two a x y = l[k]?) → nzO two a c b = some l
 | [], [], l, _, hl, _ => by rw [List.length_eq_zero_iff.1 hl]; rfl
 | c :: cs, b :: bs, [], _, hl, _ => by simp at hl
 | c :: cs, b :: bs, z :: r, h1, hl, h => by
  have h0 := h 0 c b rfl rfl
  rw [nzO, h0, nzO_all (l := r) (by simpa using h1) (by simpa using hl) (fun k x y hx hy => by have := h (k + 1) x y (by simpa using hx) (by simpa using hy); simpa using this)]
  rfl
end Go.Proofs.YtckihjfkafdncaaGreatDoor
namespace Go.Proofs.YtckihjfkafdncaaGreatDoor
open Go.RowKit
theorem below_grown {w w' : World} (h : Below w.heap.size w w') (row : Option Nat) : w.grownBy w' row := ⟨h.os, h.tape, h.output, h.size, fun k hk _ => h.block k hk⟩
open Go.Shelf
open Go.Lib (decDigits nDigits)
theorem r3_Share (w : World) (v : Value) (m n : Nat) (hv : IsN .i64 w v m) (hn : n ≤ 256) (hm : m ≤ 2 ^ 256) :
 Calls Tryz.prog 47 #[v, .int .i64 (n : Nat)] w fun e w' => e = .returned (.string (shB m (2 ^ n))) ∧ Below w.heap.size w w' := by
 have RT := fun V => hid (r3_Two V n (by omega))
 obtain ⟨t, ht⟩ : ∃ t, 2 ^ n = t := ⟨_, rfl⟩
 rw [ht] at RT ⊢
 have tle : t ≤ 2 ^ 256 := by rw [← ht]; exact Nat.pow_le_pow_right (by omega) (by omega)
 have tpos : t ≠ 0 := by rw [← ht]; exact Nat.ne_of_gt (Nat.pow_pos (by omega))
 have big : ∀ x, x ≤ 2 ^ 256 → nDigits x ≤ 78 := fun x hx => nDigits_le (by omega) (Nat.lt_of_le_of_lt hx (by decide))
 have dm := big m hm; have dt := big t tle
 have LM : Hid ((limbs m).length ≤ 1000000) := num_limbs (by omega)
 have LT : Hid ((limbs t).length ≤ 1000000) := num_limbs (by omega)
 have RM := fun V => hid (r2_Make_num V m t (by omega) (by omega) tpos)
 have V0 := hid hv
 clear hv ht tle tpos big hm dm dt
 go_enter Tryz.func47, Tryz.ntmps47
 go_wp2_with fail
 refine (r1_Write _ _ _ V0.out LM.out).mono ?_; rintro e w1 ⟨rfl, hb1⟩
 have B1 := hid hb1; clear hb1
 go_wp2_with fail
 refine (RT _).out.mono ?_; rintro e w2 ⟨⟨v2, rfl, hv2⟩, hb2⟩
 have V2 := hid hv2; have B2 := hid (bnext B1.out hb2); clear hv2 hb2
 go_wp2_with fail
 refine (r1_Write _ _ _ V2.out LT.out).mono ?_; rintro e w3 ⟨rfl, hb3⟩
 have B3 := hid (bnext B2.out hb3); clear hb3
 go_wp2_with fail
 refine (RM _).out.mono ?_; rintro e w4 ⟨rfl, hb4⟩
 have B4 := hid (bnext B3.out hb4); clear hb4
 go_wp2_with fail
 go_ret
 exact ⟨rfl, B4.out⟩
theorem make_ints (n : Nat) (hn : n ≤ 3000000) (W : World) : (Instr.makeSlice 24 (.int .i64 (n : Int)) (.int .i64 (n : Int))).run Tryz.prog W = .ok (.slice (some ⟨W.heap.size, 0, none⟩) n n) (W.alloc (.cells (madeCells #[.int .i64 0] n) 3)) :=
 run_make_row' (P := Tryz.prog) 24 3 (.int .i64 0) 8 Tryz.underlying24 (by kernel_rfl) rfl .i64 .i64 n (by omega) (by omega) W
theorem tb_list (l : List UInt8) : (tb l).data.toList = l := by simp [tb]
theorem made_ints (n : Nat) : madeCells #[.int .i64 0] n = (ints .i64 (List.replicate n 0)).toArray := made_zeros .i64 n
end Go.Proofs.YtckihjfkafdncaaGreatDoor
namespace Go.Proofs.YtckihjfkafdncaaGreatDoor
open Go.RowKit
open Go.Lib (decDigits nDigits)
structure Few (ws : List Nat) : Prop where
 len : ws.length ≤ 64
 dig : ∀ x ∈ ws, nDigits x ≤ 300
 pos : 0 < ws.sum
section
variable {ws : List Nat} {m : Nat} (h : Few ws) (hm : m ≤ 256)
include h
include hm
omit hm
end
open Go.Shelf
theorem shB_ne {a b : Nat} (hb : b ≠ 0) (h1 : nDigits a ≤ 4000) (h2 : nDigits b ≤ 4000) (ha : a ≠ 0) : shB a b ≠ ⟨#[48]⟩ := fun e => by
 rw [← shB_zero b, shB_tx hb h1 h2, shB_tx hb (by rw [nDigits_zero]; omega) h2] at e
 have e' := congrArg vQ e
 rw [vQ_txQ, vQ_txQ] at e'
 have h3 := (Rat.mkRat_eq_iff hb hb).1 e'
 have h4 : ((a * b : Nat) : Int) = 0 := by rw [Int.natCast_mul, h3]; simp
 have hp : 0 < a * b := Nat.mul_pos (by omega) (by omega)
 omega
end Go.Proofs.YtckihjfkafdncaaGreatDoor
namespace Go.Proofs.YtckihjfkafdncaaGreatDoor
open Go.RowKit
open Go.Lib (decDigits nDigits)
def fkN (g : Int → Nat) (n : Nat) (ci v : Int) (i : Nat) (c : List Int) : Nat → Nat
 | 0 => g v
 | k + 1 => if k = i then fkN g n ci v i c k else fkN g n ci v i c k * cmC g n (if k < i then ci + v - c.getD k 0 else ci + v - c.getD k 0 + 1)
theorem fkF_at (g : Int → Nat) (n : Nat) (ci v : Int) (i : Nat) (c : List Int) : ∀ m k, k + m = c.length → fkF g n ci v i k (c.drop k) (fkN g n ci v i c k) = fkN g n ci v i c c.length
 | 0, k, h => by
  obtain rfl : k = c.length := by omega
  rw [List.drop_length]; rfl
 | m + 1, k, h => by
  have hk : k < c.length := by omega
  have hd : c.getD k 0 = c[k] := by rw [List.getD_eq_getElem?_getD, List.getElem?_eq_getElem hk]; rfl
  rw [List.drop_eq_getElem_cons hk, fkF, ← hd]
  have := fkF_at g n ci v i c m (k + 1) (by omega)
  rw [fkN] at this
  exact this
theorem fkF_end (g : Int → Nat) (n : Nat) (ci v : Int) (i : Nat) (c : List Int) : fkF g n ci v i 0 c (g v) = fkN g n ci v i c c.length := fkF_at g n ci v i c c.length 0 (by omega)
def bI (i k : Nat) : Nat := if k ≤ i then k + 1 else k
theorem bI_same (i : Nat) : bI i (i + 1) = bI i i := by unfold bI; rw [if_neg (by omega), if_pos (Nat.le_refl _)]
theorem bI_next {i k : Nat} (h : k ≠ i) : bI i (k + 1) = bI i k + 1 := by unfold bI; split <;> split <;> omega
theorem bI_end {i L : Nat} (h : i < L) : bI i L = L := if_neg (by omega)
theorem bI_le {i k L : Nat} (h : i < L) (hk : k ≤ L) : bI i k ≤ L := by unfold bI; split <;> omega
section
variable {g : Int → Nat} {n : Nat} (hg : ∀ v : Int, v < 0 → g v = 0) (hz : zS n g ≤ 2 ^ n)
include hg hz
theorem g_le {v : Int} (h : v ≤ n) : g v ≤ 2 ^ n := by
 by_cases h0 : v < 0
 ·rw [hg v h0]; exact Nat.zero_le _
 ·refine Nat.le_trans ?_ hz
  rw [zS_nat hg]
  have := sumN_at (f := fun j => g (j : Int)) (i := v.toNat) (n := n + 1) (by omega)
  rwa [show ((v.toNat : Nat) : Int) = v by omega] at this
theorem fkN_le {ci v : Int} {i : Nat} {c : List Int} (hv : v ≤ n) : ∀ k, fkN g n ci v i c k ≤ 2 ^ (n * bI i k)
 | 0 => by
  show g v ≤ 2 ^ (n * 1)
  rw [Nat.mul_one]; exact g_le hg hz hv
 | k + 1 => by
  rw [fkN]
  by_cases h : k = i
  ·subst h
   rw [if_pos rfl, bI_same]; exact fkN_le hv k
  ·rw [if_neg h, bI_next h, Nat.mul_add, Nat.mul_one, Nat.pow_add]
   exact Nat.mul_le_mul (fkN_le hv k) (cmC_le hz hg _)
theorem fk_times {ci v : Int} {i k : Nat} {c : List Int} (hv : v ≤ n) (hi : i < c.length) (hk : k < c.length) (hne : k ≠ i) (hm : n * c.length ≤ 1000) :
 op2B (· * ·) (dyB (fkN g n ci v i c k) (n * bI i k)) (dyB (cmC g n (if k < i then ci + v - c.getD k 0 else ci + v - c.getD k 0 + 1)) n) = dyB (fkN g n ci v i c (k + 1)) (n * bI i (k + 1)) := by
 have hb := bI_le hi (show k + 1 ≤ c.length by omega)
 rw [bI_next hne] at hb
 have h2 : n * bI i k + n ≤ 1000 := by
  have := Nat.mul_le_mul_left n hb
  rw [Nat.mul_add, Nat.mul_one] at this
  omega
 rw [dy_mul (fkN_le hg hz hv k) (cmC_le hz hg _) h2, fkN, if_neg hne, bI_next hne, Nat.mul_add, Nat.mul_one]
def fkS (g : Int → Nat) (n : Nat) (c : List Int) (i m : Nat) : Nat := sumN (fun v => fkN g n (c.getD i 0) (v : Int) i c c.length) m
omit hg hz in
theorem fkS_end (c : List Int) (i : Nat) : fkS g n c i (n + 1) = fkT g n c i := sumN_congr fun v _ => (fkF_end g n _ _ i c).symm
theorem fkT_one {c : List Int} {i : Nat} (hi : i < c.length) : sumN (fkT g n c) i + fkT g n c i ≤ 2 ^ (n * c.length) := fkT_le hg hz (c := c) (M := i + 1) (by omega)
theorem fk_plus {c : List Int} {i v : Nat} (hi : i < c.length) (hv : v ≤ n) (hm : n * c.length ≤ 1000) :
 op2B (· + ·) (dyB (fkS g n c i v) (n * c.length)) (dyB (fkN g n (c.getD i 0) (v : Int) i c c.length) (n * bI i c.length)) = dyB (fkS g n c i (v + 1)) (n * c.length) := by
 rw [bI_end hi, dy_add _ hm]
 ·rfl
 ·have h1 : fkS g n c i (v + 1) ≤ fkS g n c i (n + 1) := sumN_mono (by omega)
  rw [fkS_end] at h1
  have h2 := fkT_one hg hz hi
  have h3 : fkS g n c i (v + 1) = fkS g n c i v + fkN g n (c.getD i 0) (v : Int) i c c.length := rfl
  omega
def fkR (g : Int → Nat) (n : Nat) (c : List Int) (i : Nat) : Nat := 2 ^ (n * c.length) - sumN (fkT g n c) i
theorem fk_less {c : List Int} {i : Nat} (hi : i < c.length) (hm : n * c.length ≤ 1000) : op2B (· - ·) (dyB (fkR g n c i) (n * c.length)) (dyB (fkT g n c i) (n * c.length)) = dyB (fkR g n c (i + 1)) (n * c.length) := by
 have h2 := fkT_one hg hz hi
 unfold fkR
 rw [dy_sub (Nat.sub_le _ _) (by omega) hm, sumN]
 congr 1; omega
def cmS (g : Int → Nat) (j : Nat) : Nat := sumN (fun x => g (x : Int)) j
theorem cmS_le {j : Nat} (hj : j ≤ n + 1) : cmS g j ≤ 2 ^ n := by
 refine Nat.le_trans (sumN_mono hj) ?_
 rw [← zS_nat hg]; exact hz
theorem cm_plus {j : Nat} (hj : j ≤ n) (hm : n ≤ 1000) : op2B (· + ·) (dyB (cmS g j) n) (dyB (g (j : Int)) n) = dyB (cmS g (j + 1)) n := by
 have := cmS_le hg hz (show j + 1 ≤ n + 1 by omega)
 rw [dy_add (show cmS g j + g (j : Int) ≤ 2 ^ n from this) hm]; rfl
omit hg hz in
theorem cmC_at (j : Int) : cmC g n j = cmS g (max 0 (min j ((n : Int) + 1))).toNat := rfl
end
def fkAll (g : Int → Nat) (n : Nat) (c : List Int) (i : Nat) : List (ByteArray × ByteArray) := (List.range i).map fun k => (numB k, dyB (fkT g n c k) (n * c.length))
def fkW (g : Int → Nat) (n : Nat) (c : List Int) : List (ByteArray × ByteArray) := fkAll g n c c.length ++ [(lateB, dyB (fkR g n c c.length) (n * c.length))]
def notZ (p : ByteArray × ByteArray) : Bool := decide (p.2 ≠ ⟨#[48]⟩)
def fkP (g : Int → Nat) (n : Nat) (c : List Int) : List (ByteArray × ByteArray) := (fkW g n c).filter notZ
theorem fkAll_succ (g : Int → Nat) (n : Nat) (c : List Int) (i : Nat) : fkAll g n c (i + 1) = fkAll g n c i ++ [(numB i, dyB (fkT g n c i) (n * c.length))] := by
 unfold fkAll
 rw [List.range_succ, List.map_append]; rfl
theorem fkAll_length (g : Int → Nat) (n : Nat) (c : List Int) (i : Nat) : (fkAll g n c i).length = i := by simp [fkAll]
theorem dy_eq_zero {x m : Nat} (hx : x ≤ 2 ^ m) (h : m ≤ 1000) : dyB x m = ⟨#[48]⟩ ↔ x = 0 :=
 ⟨fun e => Classical.byContradiction fun h0 => shB_ne (pow_ne m) (dy_nd hx h) (dy_nd (Nat.le_refl _) h) h0 e, fun e => e ▸ dy_zero m⟩
theorem fkW_nd (g : Int → Nat) (n : Nat) (c : List Int) : ((fkW g n c).map keyL).Nodup := by
 unfold fkW fkAll
 rw [List.map_append, List.map_map, List.map_singleton, List.nodup_append]
 refine ⟨?_, by simp, ?_⟩
 ·rw [List.Nodup, List.pairwise_map]
  refine List.nodup_range.imp fun {a b} hab e => hab ?_
  simp only [Function.comp, keyL, numB_list] at e
  exact decDigits_inj e
 ·intro a ha b hb
  simp only [List.mem_map, List.mem_singleton, Function.comp] at ha hb
  obtain ⟨k, _, rfl⟩ := ha
  subst hb
  have := zB_late (k : Int)
  rw [zB_nat] at this
  exact this
theorem fkP_nd (g : Int → Nat) (n : Nat) (c : List Int) : ((fkP g n c).map keyL).Nodup := (List.filter_sublist.map keyL).nodup (fkW_nd g n c)
section
variable {N D : Nat} (h : N < D)
include h
omit h in
omit h in
omit h in
omit h in
end
theorem gV_one_neg {N D : Nat} (n : Nat) {v : Int} (hv : v < 0) : gV N D false n v = 0 := by rw [gV_one, if_neg (by omega)]
def chk (n : Nat) : Nat → List UInt8 → List (List UInt8)
 | 0, _ => []
 | L + 1, l => l.take n :: chk n L (l.drop n)
theorem chk_length (n : Nat) : ∀ (L : Nat) (l : List UInt8), (chk n L l).length = L
 | 0, _ => rfl
 | L + 1, l => by rw [chk, List.length_cons, chk_length n L]
theorem chk_bits {n : Nat} : ∀ {L : Nat} {l : List UInt8}, l.length = n * L → (∀ b ∈ l, b = 48 ∨ b = 49) → ∀ x ∈ chk n L l, x.length = n ∧ ∀ b ∈ x, b = 48 ∨ b = 49
 | 0, _, _, _, x, hx => by simp [chk] at hx
 | L + 1, l, hl, hb, x, hx => by
  rw [Nat.mul_add, Nat.mul_one] at hl
  rcases List.mem_cons.1 hx with rfl | hx
  ·exact ⟨by rw [List.length_take]; omega, fun b h => hb b (List.mem_of_mem_take h)⟩
  ·exact chk_bits (by rw [List.length_drop]; omega) (fun b h => hb b (List.mem_of_mem_drop h)) x hx
theorem chkE_tb {x : List UInt8} (hb : ∀ b ∈ x, b = 48 ∨ b = 49) (hx : x.length ≤ 256) : chkE (tb x) = 0 := by
 have h1 : bitB (tb x) = true := by
  unfold bitB
  rw [List.all_eq_true]
  intro b h
  have : b ∈ x := by simpa [tb] using h
  rcases hb b this with rfl | rfl <;> rfl
 have h2 : (tb x).size = x.length := by simp [tb, ByteArray.size]
 unfold chkE
 rw [if_pos h1, if_neg (by omega)]
theorem nzO_chunks {a : ByteArray} (two : Bool) (he : gPE a = 0) {n : Nat} (hn : n ≤ 256) : ∀ (c : List Int) (l : List UInt8), l.length = n * c.length → (∀ b ∈ l, b = 48 ∨ b = 49) →
 nzO two a c ((chk n c.length l).map tb) = (vals n (List.replicate c.length (valT (bN (cW a)) (bN (qD a)) two)) l).map (nzV c)
 | [], l, _, _ => rfl
 | c :: cs, l, hl, hb => by
  rw [List.length_cons, Nat.mul_add, Nat.mul_one] at hl
  have hb1 : ∀ b ∈ l.take n, b = 48 ∨ b = 49 := fun b h => hb b (List.mem_of_mem_take h)
  have e1 := nz1_val (a := a) (b := tb (l.take n)) two he (chkE_tb hb1 (by rw [List.length_take]; omega)) c
  have et : (tb (l.take n)).data.toList = l.take n := by simp [tb]
  rw [et] at e1
  rw [List.length_cons, chk, List.map_cons, nzO, e1, nzO_chunks two he hn cs (l.drop n) (by rw [List.length_drop]; omega) (fun b h => hb b (List.mem_of_mem_drop h)), List.replicate_succ, vals]
  cases valT (bN (cW a)) (bN (qD a)) two (l.take n) with
  | none => rfl
  | some x =>
   cases vals n (List.replicate cs.length (valT (bN (cW a)) (bN (qD a)) two)) (l.drop n) with
   | none => rfl
   | some r => rfl
def wdA (c : List Int) (a : ByteArray) (n : Nat) (l : List UInt8) : Int × Bool := match nzO false a c ((chk n c.length l).map tb) with | none => (0, false) | some z => ((amx z : Nat), true)
theorem fd_count {a : ByteArray} (he : gPE a = 0) {n : Nat} (hn : n ≤ 256) {c : List Int} {i : Nat} (hi : i < c.length) : (allW (n * c.length)).countP (fun l => decide (wdA c a n l = (((i : Nat) : Int), true))) = fkT (gV (bN (cW a)) (bN (qD a)) false n) n c i := by
 have hND := (gPE_ok he).2
 have h1 : (allW (n * c.length)).countP (fun l => decide (wdA c a n l = (((i : Nat) : Int), true))) = (allW (n * c.length)).countP (fun l => ifS (vals n (List.replicate c.length (valT (bN (cW a)) (bN (qD a)) false)) l) (fun xs => decide (amx (nzV c xs) = i))) := by
  refine List.countP_congr fun l hl => ?_
  unfold wdA
  rw [nzO_chunks false he hn c l (allW_len hl) (allW_bits hl)]
  cases vals n (List.replicate c.length (valT (bN (cW a)) (bN (qD a)) false)) l with
  | none => simp [ifS]
  | some xs => simp [ifS]; exact Int.ofNat_inj
 rw [h1, cw_all, fkT_vw (fun v hv => gV_one_neg n hv) hi]
 have h2 := cw_vals (n := n) (fs := List.replicate c.length (valT (bN (cW a)) (bN (qD a)) false)) (fun xs => decide (amx (nzV c xs) = i)) (fun f hf a x ha => by
  rw [List.eq_of_mem_replicate hf]
  exact valT_w hND false n a x ha)
 rw [List.length_replicate, List.map_replicate] at h2
 exact h2
theorem fd_late {a : ByteArray} (he : gPE a = 0) {n : Nat} (hn : n ≤ 256) {c : List Int} (hc : c ≠ []) : (allW (n * c.length)).countP (fun l => decide (wdA c a n l = (0, false))) = fkR (gV (bN (cW a)) (bN (qD a)) false n) n c c.length := by
 have hND := (gPE_ok he).2
 have h0 := cw_vals (n := n) (fs := List.replicate c.length (valT (bN (cW a)) (bN (qD a)) false)) (fun _ => true) (fun f hf a x ha => by
  rw [List.eq_of_mem_replicate hf]
  exact valT_w hND false n a x ha)
 rw [List.length_replicate, List.map_replicate] at h0
 have h1 : (allW (n * c.length)).countP (fun l => decide (wdA c a n l = (0, false))) = cw (n * c.length) (fun l => !ifS (vals n (List.replicate c.length (valT (bN (cW a)) (bN (qD a)) false)) l) (fun _ => true)) := by
  rw [← cw_all]
  refine List.countP_congr fun l hl => ?_
  unfold wdA
  rw [nzO_chunks false he hn c l (allW_len hl) (allW_bits hl)]
  cases vals n (List.replicate c.length (valT (bN (cW a)) (bN (qD a)) false)) l with
  | none => simp [ifS]
  | some xs => simp [ifS]
 have h2 := cw_not (fun l => ifS (vals n (List.replicate c.length (valT (bN (cW a)) (bN (qD a)) false)) l) (fun _ => true)) (n * c.length)
 have h3 : pAll n (List.replicate c.length (gV (bN (cW a)) (bN (qD a)) false n)) = cw (n * c.length) (fun l => ifS (vals n (List.replicate c.length (valT (bN (cW a)) (bN (qD a)) false)) l) (fun _ => true)) := h0.symm
 rw [h1, fkR, fkT_all (fun v hv => gV_one_neg n hv) hc, h3]
 omega
theorem fkW_mem {g : Int → Nat} {n : Nat} {c : List Int} {p : ByteArray × ByteArray} : p ∈ fkW g n c ↔ (∃ k, k < c.length ∧ p = (numB k, dyB (fkT g n c k) (n * c.length))) ∨ p = (lateB, dyB (fkR g n c c.length) (n * c.length)) := by
 unfold fkW fkAll
 rw [List.mem_append, List.mem_map, List.mem_singleton]
 refine or_congr ⟨?_, ?_⟩ Iff.rfl
 ·rintro ⟨k, hk, rfl⟩; exact ⟨k, List.mem_range.1 hk, rfl⟩
 ·rintro ⟨k, hk, rfl⟩; exact ⟨k, List.mem_range.2 hk, rfl⟩
theorem fkP_mem {g : Int → Nat} {n : Nat} {c : List Int} {p : ByteArray × ByteArray} : p ∈ fkP g n c ↔ p ∈ fkW g n c ∧ p.2 ≠ ⟨#[48]⟩ := by
 unfold fkP notZ
 rw [List.mem_filter]
 simp
noncomputable def nzTb (g : Int → Nat) (n : Nat) (ks : List ByteArray) (v : Nat) : ByteArray := @ite _ (numB v ∈ ks) (Classical.propDecidable _) (dyB (g v) n) ⟨#[48]⟩
noncomputable def nzT (g : Int → Nat) (n : Nat) (ks : List ByteArray) : List ByteArray := (List.range (n + 1)).map (nzTb g n ks)
@[simp] theorem nzT_length (g : Int → Nat) (n : Nat) (ks : List ByteArray) : (nzT g n ks).length = n + 1 := by simp [nzT]
theorem nzT_nil (g : Int → Nat) (n : Nat) : nzT g n [] = List.replicate (n + 1) ⟨#[48]⟩ := by
 apply List.ext_getElem
 ·simp
 ·intro i h1 h2
  simp only [nzT, List.getElem_map, List.getElem_range, List.getElem_replicate]
  unfold nzTb
  rw [if_neg (by simp)]
theorem nzT_num (g : Int → Nat) {n v : Nat} (hv : v ≤ n) (ks : List ByteArray) : nzT g n (ks ++ [numB v]) = (nzT g n ks).set v (dyB (g v) n) := by
 apply List.ext_getElem
 ·simp
 ·intro i h1 h2
  rw [List.getElem_set]
  simp only [nzT, List.getElem_map, List.getElem_range]
  unfold nzTb
  by_cases e : v = i
  ·subst e
   rw [if_pos rfl, if_pos (by simp)]
  ·rw [if_neg e]
   have : (numB i ∈ ks ++ [numB v]) ↔ numB i ∈ ks := by
    rw [List.mem_append, List.mem_singleton]
    constructor
    ·rintro (h | h)
     ·exact h
     ·exact absurd (numB_inj h).symm e
    ·exact .inl
   by_cases h : numB i ∈ ks
   ·rw [if_pos h, if_pos (this.2 h)]
   ·rw [if_neg h, if_neg (fun k => h (this.1 k))]
theorem numB_ne_late (i : Nat) : numB i ≠ lateB := fun h => numB_late i (congrArg (fun b => b.data.toList) h)
theorem nzT_late (g : Int → Nat) (n : Nat) (ks : List ByteArray) : nzT g n (ks ++ [lateB]) = nzT g n ks := by
 unfold nzT
 refine List.map_congr_left fun i _ => ?_
 unfold nzTb
 have : (numB i ∈ ks ++ [lateB]) ↔ numB i ∈ ks := by
  rw [List.mem_append, List.mem_singleton]
  constructor
  ·rintro (h | h)
   ·exact h
   ·exact absurd h (numB_ne_late i)
  ·exact .inl
 by_cases h : numB i ∈ ks
 ·rw [if_pos h, if_pos (this.2 h)]
 ·rw [if_neg h, if_neg (fun k => h (this.1 k))]
def prT (g : Int → Nat) (n : Nat) : List ByteArray := (List.range (n + 1)).map fun (v : Nat) => dyB (g v) n
@[simp] theorem prT_length (g : Int → Nat) (n : Nat) : (prT g n).length = n + 1 := by simp [prT]
theorem prT_get {g : Int → Nat} {n i : Nat} (h : i ≤ n) : (prT g n)[i]? = some (dyB (g (i : Int)) n) := by
 unfold prT
 rw [List.getElem?_map, List.getElem?_range (by omega)]; rfl
theorem nz_mass {g : Int → Nat} {n r : Nat} (hg : ∀ v : Int, v < 0 → g v = 0) {p : ByteArray × ByteArray} (h : p ∈ sortM (glP g (2 ^ n) n r)) : (∃ v : Nat, v ≤ n ∧ p = (numB v, dyB (g v) n)) ∨ p.1 = lateB := by
 rw [sortM_mem, glP_mem] at h
 rcases h with ⟨v, h1, h2, h3, rfl⟩ | ⟨_, rfl⟩
 ·have h0 : ¬ v < 0 := fun h0 => h3 (hg v h0)
  refine .inl ⟨v.toNat, by omega, ?_⟩
  have e : ((v.toNat : Nat) : Int) = v := by omega
  rw [← zB_nat, e]; rfl
 ·exact .inr rfl
theorem nzT_all {g : Int → Nat} {n r : Nat} (hg : ∀ v : Int, v < 0 → g v = 0) : nzT g n ((sortM (glP g (2 ^ n) n r)).map Prod.fst) = prT g n := by
 unfold nzT prT
 refine List.map_congr_left fun i hi => ?_
 rw [List.mem_range] at hi
 unfold nzTb
 by_cases h0 : g (i : Int) = 0
 ·rw [h0, dy_zero]
  split <;> rfl
 ·rw [if_pos]
  rw [List.mem_map]
  refine ⟨(zB (i : Int), shB (g (i : Int)) (2 ^ n)), sortM_mem.2 (glP_mem.2 (.inl ⟨i, by omega, by omega, h0, rfl⟩)), ?_⟩
  exact zB_nat i
def ksL (L : List (ByteArray × ByteArray)) (j : Nat) : List ByteArray := (L.take j).map Prod.fst
theorem ksL_zero (L : List (ByteArray × ByteArray)) : ksL L 0 = [] := rfl
theorem ksL_all (L : List (ByteArray × ByteArray)) : ksL L L.length = L.map Prod.fst := by unfold ksL; rw [List.take_length]
theorem ksL_succ {L : List (ByteArray × ByteArray)} {j : Nat} {p : ByteArray × ByteArray} (h : L[j]? = some p) : ksL L (j + 1) = ksL L j ++ [p.1] := by
 have hj := (List.getElem?_eq_some_iff.1 h).1
 unfold ksL
 rw [List.take_add_one, h]
 simp
def cmL (g : Int → Nat) (n i : Nat) : List ByteArray := (List.range (i + 1)).map fun j => dyB (cmS g j) n
@[simp] theorem cmL_length (g : Int → Nat) (n i : Nat) : (cmL g n i).length = i + 1 := by simp [cmL]
theorem cmL_zero (g : Int → Nat) (n : Nat) : cmL g n 0 = [⟨#[48]⟩] := by
 show [dyB (cmS g 0) n] = _
 rw [show cmS g 0 = 0 from rfl, dy_zero]
theorem cmL_succ (g : Int → Nat) (n i : Nat) : cmL g n (i + 1) = cmL g n i ++ [dyB (cmS g (i + 1)) n] := by
 unfold cmL
 rw [List.range_succ, List.map_append]; rfl
theorem cmL_get {g : Int → Nat} {n i j : Nat} (h : j ≤ i) : (cmL g n i)[j]? = some (dyB (cmS g j) n) := by
 unfold cmL
 rw [List.getElem?_map, List.getElem?_range (by omega)]; rfl
theorem dyB_size {x m : Nat} (hx : x ≤ 2 ^ m) (h : m ≤ 1000) : (dyB x m).size ≤ 10000 := by unfold dyB shB; exact outB_size _
end Go.Proofs.YtckihjfkafdncaaGreatDoor
namespace Go.Proofs
open Go.Shelf
def Tryz.sortMW_ren : Go.Shelf.Ren := ⟨fun | 14 => 87 | 20 => 139 | 21 => 140 | 22 => 141 | 23 => 142 | 24 => 143 | 25 => 144 | 26 => 145 | 27 => 146 | 46 => 200 | 47 => 201 | 48 => 202 | 49 => 203 | 50 => 204 | 15 => 88 | 57 => 256 | 28 => 147 | 29 => 148 | n => n, fun | 24 => 39 | 22 => 25 | 3 => 3 | 25 => 71 | 4 => 4 | 0 => 0 | 46 => 163 | 45 => 162 | 50 => 167 | 66 => 212 | 39 => 118 | 55 => 135 | 70 => 216 | 76 => 275 | 77 => 74 | 53 => 170 | 5 => 5 | 9 => 9 | n => n, fun | n => n⟩
theorem Tryz.sortMW : Go.Proofs.SlLaysF0.n14 Tryz.prog Tryz.sortMW_ren := {
 mixed := by kernel_rfl
 f14 := ⟨Tryz.f87.name, by decide, Tryz.func87.trans (congrArg some (by kernel_rfl))⟩
 f15 := Tryz.func88.trans (congrArg some (by kernel_rfl))
 f20 := ⟨Tryz.f139.name, by decide, Tryz.func139.trans (congrArg some (by kernel_rfl))⟩
 f21 := ⟨Tryz.f140.name, by decide, Tryz.func140.trans (congrArg some (by kernel_rfl))⟩
 f22 := ⟨Tryz.f141.name, by decide, Tryz.func141.trans (congrArg some (by kernel_rfl))⟩
 f23 := ⟨Tryz.f142.name, by decide, Tryz.func142.trans (congrArg some (by kernel_rfl))⟩
 f24 := ⟨Tryz.f143.name, by decide, Tryz.func143.trans (congrArg some (by kernel_rfl))⟩
 f25 := ⟨Tryz.f144.name, by decide, Tryz.func144.trans (congrArg some (by kernel_rfl))⟩
 f26 := ⟨Tryz.f145.name, by decide, Tryz.func145.trans (congrArg some (by kernel_rfl))⟩
 f27 := ⟨Tryz.f146.name, by decide, Tryz.func146.trans (congrArg some (by kernel_rfl))⟩
 f28 := Tryz.func147.trans (congrArg some (by kernel_rfl))
 f29 := Tryz.func148.trans (congrArg some (by kernel_rfl))
 f46 := ⟨Tryz.f200.name, by decide, Tryz.func200.trans (congrArg some (by kernel_rfl))⟩
 f47 := Tryz.func201.trans (congrArg some (by kernel_rfl))
 f48 := Tryz.func202.trans (congrArg some (by kernel_rfl))
 f49 := ⟨Tryz.f203.name, by decide, Tryz.func203.trans (congrArg some (by kernel_rfl))⟩
 f50 := ⟨Tryz.f204.name, by decide, Tryz.func204.trans (congrArg some (by kernel_rfl))⟩
 f57 := ⟨Tryz.f256.name, by decide, Tryz.func256.trans (congrArg some (by kernel_rfl))⟩
 t0 := Tryz.underlying0
 a0 := Tryz.isAgg0
 z0 := Tryz.sizeOf0
 v0 := Tryz.zeroValue0
 t3 := Tryz.underlying3
 a3 := Tryz.isAgg3
 z3 := Tryz.sizeOf3
 v3 := Tryz.zeroValue3
 t4 := Tryz.underlying4
 a4 := Tryz.isAgg4
 z4 := Tryz.sizeOf4
 v4 := Tryz.zeroValue4
 t5 := Tryz.underlying5
 a5 := Tryz.isAgg5
 z5 := Tryz.sizeOf5
 v5 := Tryz.zeroValue5
 t9 := Tryz.underlying9
 a9 := Tryz.isAgg9
 z9 := Tryz.sizeOf9
 v9 := Tryz.zeroValue9
 t22 := Tryz.underlying25
 a22 := Tryz.isAgg25
 z22 := Tryz.sizeOf25
 v22 := Tryz.zeroValue25
 t25 := Tryz.underlying71
 a25 := Tryz.isAgg71
 z25 := Tryz.sizeOf71
 v25 := Tryz.zeroValue71
 t39 := Tryz.underlying118
 a39 := Tryz.isAgg118
 z39 := Tryz.sizeOf118
 v39 := Tryz.zeroValue118
 t45 := Tryz.underlying162
 a45 := Tryz.isAgg162
 z45 := Tryz.sizeOf162
 v45 := Tryz.zeroValue162
 t46 := Tryz.underlying163
 a46 := Tryz.isAgg163
 z46 := Tryz.sizeOf163
 v46 := Tryz.zeroValue163
 t50 := Tryz.underlying167
 a50 := Tryz.isAgg167
 z50 := Tryz.sizeOf167
 v50 := Tryz.zeroValue167
 t53 := Tryz.underlying170
 a53 := Tryz.isAgg170
 z53 := Tryz.sizeOf170
 v53 := Tryz.zeroValue170
 t55 := Tryz.underlying135
 a55 := Tryz.isAgg135
 z55 := Tryz.sizeOf135
 v55 := Tryz.zeroValue135
 t66 := Tryz.underlying212
 a66 := Tryz.isAgg212
 z66 := Tryz.sizeOf212
 v66 := Tryz.zeroValue212
 t70 := Tryz.underlying216
 a70 := Tryz.isAgg216
 z70 := Tryz.sizeOf216
 v70 := Tryz.zeroValue216
 t76 := Tryz.underlying275
 a76 := Tryz.isAgg275
 z76 := Tryz.sizeOf275
 v76 := Tryz.zeroValue275
 t77 := Tryz.underlying74
 a77 := Tryz.isAgg74
 z77 := Tryz.sizeOf74
 v77 := Tryz.zeroValue74 }
def Tryz.lenW_ren : Go.Shelf.Ren := ⟨fun | 125 => 88 | 128 => 147 | 129 => 148 | n => n, fun | 46 => 118 | 3 => 3 | 51 => 170 | 53 => 135 | 4 => 4 | 5 => 5 | 9 => 9 | n => n, fun | n => n⟩
theorem Tryz.lenW : Go.Proofs.Lays.n125 Tryz.prog Tryz.lenW_ren := {
 mixed := by kernel_rfl
 f125 := Tryz.func88.trans (congrArg some (by kernel_rfl))
 f128 := Tryz.func147.trans (congrArg some (by kernel_rfl))
 f129 := Tryz.func148.trans (congrArg some (by kernel_rfl))
 t3 := Tryz.underlying3
 a3 := Tryz.isAgg3
 z3 := Tryz.sizeOf3
 v3 := Tryz.zeroValue3
 t4 := Tryz.underlying4
 a4 := Tryz.isAgg4
 z4 := Tryz.sizeOf4
 v4 := Tryz.zeroValue4
 t5 := Tryz.underlying5
 a5 := Tryz.isAgg5
 z5 := Tryz.sizeOf5
 v5 := Tryz.zeroValue5
 t9 := Tryz.underlying9
 a9 := Tryz.isAgg9
 z9 := Tryz.sizeOf9
 v9 := Tryz.zeroValue9
 t46 := Tryz.underlying118
 a46 := Tryz.isAgg118
 z46 := Tryz.sizeOf118
 v46 := Tryz.zeroValue118
 t51 := Tryz.underlying170
 a51 := Tryz.isAgg170
 z51 := Tryz.sizeOf170
 v51 := Tryz.zeroValue170
 t53 := Tryz.underlying135
 a53 := Tryz.isAgg135
 z53 := Tryz.sizeOf135
 v53 := Tryz.zeroValue135 }
end Go.Proofs
namespace Go.Proofs.YtckihjfkafdncaaGreatDoor
open Go.RowKit
open Go.Sort
open Go.Shelf
open Go.Lib
def cmpK (p q : ByteArray × ByteArray) : Int := if keyL p < keyL q then -1 else if keyL q < keyL p then 1 else 0
theorem cmpK_neg (p q : ByteArray × ByteArray) : cmpK p q < 0 ↔ keyL p < keyL q := by
 unfold cmpK
 split
 ·rename_i h; simp [h]
 ·rename_i h
  split <;> simp [h]
def encM (p : ByteArray × ByteArray) : List Value := [.string p.1, .string p.2]
theorem swoM : SWO (ltOf cmpK) where
 irrefl x := by
  simp only [ltOf, decide_eq_false_iff_not, cmpK_neg]
  exact List.lt_irrefl _
 trans x y z h1 h2 := by
  simp only [ltOf, decide_eq_true_eq, cmpK_neg] at *
  exact List.lt_trans h1 h2
 ntrans x y z h1 h2 := by
  simp only [ltOf, decide_eq_false_iff_not, cmpK_neg, List.not_lt] at *
  exact List.le_trans h2 h1
theorem massC_at {L : List (ByteArray × ByteArray)} (i : Nat) : (massC L)[i]? = (L[i / 2]?).map (fun p => if i % 2 = 0 then Value.string p.1 else Value.string p.2) := by
 cases h : L[i / 2]? with
 | none =>
  rw [List.getElem?_eq_none_iff] at h
  rw [Option.map_none, List.getElem?_eq_none_iff, massC_length]
  omega
 | some p =>
  obtain ⟨h1, h2⟩ := massC_get h
  rw [Option.map_some]
  by_cases hm : i % 2 = 0
  ·rw [if_pos hm, show i = 2 * (i / 2) by omega]; exact h1
  ·rw [if_neg hm, show i = 2 * (i / 2) + 1 by omega]; exact h2
theorem flatK_mass (d : Array (ByteArray × ByteArray)) : (flatK encM 2 d).toList = massC d.toList := by
 apply List.ext_getElem?
 intro i
 rw [massC_at]
 by_cases hi : i < d.size * 2
 ·have e1 := get_flatK encM 2 d i (by omega)
  rw [getElem!_pos _ _ (by simp; omega)] at e1
  have hi2 : i / 2 < d.size := by omega
  rw [Array.getElem?_toList, Array.getElem?_eq_getElem (by simp; omega), e1, Array.getElem?_toList, Array.getElem?_eq_getElem hi2, Option.map_some, getElem!_pos d (i / 2) hi2]
  by_cases hm : i % 2 = 0
  ·rw [if_pos hm, hm]; rfl
  ·rw [if_neg hm, show i % 2 = 1 by omega]; rfl
 ·rw [List.getElem?_eq_none (by simp; omega), Array.getElem?_toList, Array.getElem?_eq_none (by omega)]; rfl
theorem heap_sortedK {w : World} {g n : Nat} {os : Array Obj} {cur : Array Value} {e : TypeId} {fr : Nat × Nat} (d : Array Value) (hb : w.heap[g]? = some (.cells cur e fr)) :
 (grow (putRow id (Sort.ahead w n) g 0 d) os).heap[g]? = some (.cells (putCells id 0 d cur) e fr) := by
 have hg : g < w.heap.size := (Array.getElem?_eq_some_iff.1 hb).1
 rw [Go.Sort.heap_grow_old _ _ (by simpa using hg)]
 simp [putRow, mapBlock, Sort.ahead, Array.getElem?_modify, hb, onCells]
theorem below_sortedK {w : World} {g n base : Nat} {os : Array Obj} (d : Array Value) (hb : base ≤ g) (hw : base ≤ w.heap.size) : Below base w (grow (putRow id (Sort.ahead w n) g 0 d) os) := by
 refine ⟨rfl, rfl, rfl, by simp, fun k hk => ?_⟩
 rw [Go.Sort.heap_grow_old _ _ (by simp; omega)]
 have : g ≠ k := by omega
 simp [putRow, mapBlock, Sort.ahead, Array.getElem?_modify, this]
theorem take_putCellsK (cur F : Array Value) (h : F.size ≤ cur.size) : (putCells id 0 F cur).toList.take F.size = F.toList := by
 apply List.ext_getElem?
 intro j
 by_cases hj : j < F.size
 ·rw [List.getElem?_take_of_lt hj, Array.getElem?_toList]
  simp [putCells, hj, show j < cur.size by omega]
 ·rw [List.getElem?_take_eq_none (by omega), List.getElem?_eq_none (by simp; omega)]
theorem permIn_all {d d' : Array (ByteArray × ByteArray)} (h : PermIn 0 d.size d d') : d'.size = d.size ∧ d'.toList.Perm d.toList := by
 obtain ⟨h1, _, h3⟩ := h
 refine ⟨h1, ?_⟩
 have e1 : d'.extract 0 d.size = d' := by rw [← h1]; simp
 have e2 : d.extract 0 d.size = d := by simp
 rwa [e1, e2] at h3
theorem sortedIn_all {d' : Array (ByteArray × ByteArray)} (h : SortedIn (ltOf cmpK) 0 d'.size d') : d'.toList.Pairwise (fun p q => leB (keyL p) (keyL q) = true) := by
 rw [List.pairwise_iff_getElem]
 intro i j hi hj hij
 have := h i j (Nat.zero_le _) hij (by simpa using hj)
 simp only [ltOf, decide_eq_false_iff_not, cmpK_neg, List.not_lt] at this
 rw [getElem!_pos _ _ (by simpa using hi), getElem!_pos _ _ (by simpa using hj)] at this
 simp only [leB, decide_eq_true_eq]
 simpa using this
theorem sorted_is {L M : List (ByteArray × ByteArray)} (hp : L.Perm M) (hs : L.Pairwise (fun p q => leB (keyL p) (keyL q) = true)) (nd : (M.map keyL).Nodup) : L = sortM M := by
 have nd2 : (L.map keyL).Nodup := ((hp.map keyL).nodup_iff).2 nd
 rw [← sortM_same nd2 nd (fun p => hp.mem_iff)]
 exact (List.mergeSort_of_pairwise hs).symm
theorem s_SortM (F : Nat) (g cap base : Nat) (d : Array (ByteArray × ByteArray)) (w : World) (cur : Array Value) (hb : base ≤ g) (hg : w.heap[g]? = some (.cells cur 39 (0, 0))) (h1 : d.size ≤ cap) (h2 : cap ≤ maxLen) (h3 : cur.size = cap * 2) (h4 : cur.toList.take (d.size * 2) = massC d.toList) (hs : d.size ≤ 1000) (hnd : (d.toList.map keyL).Nodup)
 (eg : ∀ args w, (callFunc F args).run Tryz.prog w = .ok (.enter F args) w) (hF : ∀ (x y : ByteArray × ByteArray) (W : World), Calls Tryz.prog F #[.agg #[.string x.1, .string x.2], .agg #[.string y.1, .string y.2]] W fun e w' => e = .returned (.int .i64 (cmpK x y)) ∧ ∃ n os', w' = grow (W.drewN n) os') :
 Calls Tryz.prog 37 #[.slice (some ⟨g, 0, none⟩) d.size cap, .func (.func F) #[] #[]] w fun e w' => e = .returned (.tuple #[]) ∧ w'.ownsRow base 39 2 (.slice (some ⟨g, 0, none⟩) d.size cap) d.size (massC (sortM d.toList)) ∧ Below base w w' := by
 have hblk : g < w.heap.size := (Array.getElem?_eq_some_iff.1 hg).1
 have hH : HoldsK encM 2 w g 0 d := by
  intro j hj
  have hj' : j < d.size * 2 := by simpa using hj
  refine ⟨?_, by simp [World.frozen?, hg]⟩
  have e : (cur.toList.take (d.size * 2))[j]? = (flatK encM 2 d).toList[j]? := by rw [h4, flatK_mass]
  rw [List.getElem?_take_of_lt hj'] at e
  simp only [World.cell?, hg, Nat.zero_add]
  simp only [Option.isSome_none, Bool.false_eq_true, if_false]
  rw [← Array.getElem?_toList, e, Array.getElem?_toList, Array.getElem?_eq_getElem hj, getElem!_pos (flatK encM 2 d) j hj]
  rfl
 have hcmp : CmpLays Tryz.prog F #[] encM 2 cmpK g 0 d.size w := fun _ _ _ _ x y => hF x y _
 have hd : ∀ x : ByteArray × ByteArray, (encM x).length = 2 := fun _ => rfl
 have h1c : ∀ x : ByteArray × ByteArray, ∀ v ∈ encM x, v.oneCell' = true := fun x v hv => by simp [encM] at hv; rcases hv with rfl | rfl <;> rfl
 have hlim : Lib.bitLen d.size < 4611686018427387904 := Nat.lt_of_le_of_lt (Lib.bitLen_le d.size 62 (by omega) (by omega)) (by omega)
 have hpd := AnyQ.pdqsortCmpFunc_all Tryz.sortMW 2 Tryz.isAgg39 Tryz.sizeOf39 encM cmpK F #[] swoM g 0 cap d w eg hcmp ⟨hd, h1c, hH, hblk⟩ (d.size + 1) 0 d.size (Lib.bitLen d.size) d w (by omega) rfl (SWK.start hH) (Nat.zero_le _) (Nat.le_refl _) (by omega) hlim (Or.inl rfl)
 change Calls Tryz.prog 87 _ _ _ at hpd
 have hbl : Calls Tryz.prog 88 #[.int .u64 (d.size : Int)] w fun e w' => e = .returned (.int .i64 (Lib.bitLen d.size : Nat)) ∧ w' = w := by
  have h := Any.bits_Len Tryz.lenW (d.size : Int) w (by omega) (by omega)
  rwa [Int.toNat_natCast] at h
 have wr : IntKind.u64.wrap (d.size : Int) = d.size := by simp [IntKind.wrap, IntKind.bits, IntKind.signed]; omega
 have hz := pdq_sorts (ltOf cmpK) swoM d 0 d.size (Lib.bitLen d.size) true true (Nat.zero_le _) (Nat.le_refl _) (Or.inl rfl)
 have P := permIn_all hz.1
 have hz2 := hz.2
 generalize pdq (ltOf cmpK) d 0 d.size (Lib.bitLen d.size) true true = d' at *
 have S := sortedIn_all (P.1 ▸ hz2)
 have hd' : d'.toList = sortM d.toList := sorted_is P.2 S hnd
 clear hH hcmp hz hz2 hF
 have h2h := hid h2; clear h2
 have h4h := hid h4; clear h4
 have HND := hid hnd; clear hnd
 go_enter Tryz.func37, Tryz.ntmps37
 go_wp2_with fail
 refine hbl.mono ?_; rintro e w' ⟨rfl, rfl⟩
 go_wp2_with fail
 refine hpd.mono ?_; rintro e w' ⟨rfl, n, os, rfl⟩
 go_wp2_with fail
 go_end0
 refine ⟨rfl, ⟨?_, .inr ⟨g, cap, _, rfl, hb, heap_sortedK _ hg, h1, h2h.out, by simp [putCells, h3], ?_⟩⟩, below_sortedK _ hb (by omega)⟩
 ·rw [massC_length, ← hd']; simp [P.1]
 ·rw [← hd', ← flatK_mass]
  have := take_putCellsK cur (flatK encM 2 d') (by rw [size_flatK, P.1, h3]; omega)
  rwa [size_flatK, P.1] at this
end Go.Proofs.YtckihjfkafdncaaGreatDoor
namespace Go.Proofs.YtckihjfkafdncaaGreatDoor
open Go.RowKit
open Go.Sort
open Go.Shelf
open Go.Maps
open Go.Lib (decDigits nDigits)
theorem s_ItoaZ (w : World) (v : Int) (h1 : -100000 ≤ v) (h2 : v ≤ 100000) (hL : Lay w) :
 Calls Tryz.prog 33 #[.int .i64 v] w fun e w' => e = .returned (.string (zB v)) ∧ Below w.heap.size w w' := by
 refine (Tryz.strconv_Itoa v (by omega) (by omega) w hL.tab).mono ?_
 rintro e w' ⟨rfl, k, os, rfl⟩
 exact ⟨rfl, below_grow w k os⟩
theorem sameKey_int (v x : Int) : (Lit.int .i64 v).sameKey (.int .i64 x) = decide (v = x) := by
 by_cases h : v = x
 ·subst h
  rw [WideAt.sameKey_self (show WideAt.IsKeyLit (.int .i64 v) from trivial)]; simp
 ·rw [Maps.sameKey_ne (fun e => h (by injection e))]; simp [h]
theorem less_bytes (x z : ByteArray) : Op.bytesLess x.toList z.toList = decide (x.data.toList < z.data.toList) := by
 rw [bytesLess_eq, Lib.toList_data, Lib.toList_data]
theorem s_isNaN (w : World) (x : ByteArray) : Calls Tryz.prog 89 #[.string x] w fun e w' => e = .returned (.bool false) ∧ w = w' := by
 have q1 : (x.toList != x.toList) = false := by simp
 have q2 : (x.toList == x.toList) = true := by simp
 go_enter Tryz.func89, Tryz.ntmps89
 go_wp2_with fail
 go_ret
 exact ⟨rfl, rfl⟩
theorem s_Compare (w : World) (x z : ByteArray) : Calls Tryz.prog 39 #[.string x, .string z] w fun e w' => e = .returned (.int .i64 (if x.data.toList < z.data.toList then -1 else if z.data.toList < x.data.toList then 1 else 0)) ∧ w = w' := by
 have h1 := less_bytes x z
 have h2 := less_bytes z x
 have N1 := fun V => hid (s_isNaN V x)
 have N2 := fun V => hid (s_isNaN V z)
 by_cases c1 : x.data.toList < z.data.toList
 ·rw [if_pos c1]
  rw [decide_eq_true c1] at h1
  clear h2 c1
  go_enter Tryz.func39, Tryz.ntmps39
  go_wp2_with fail
  refine (N1 _).out.mono ?_; rintro e w1 ⟨rfl, rfl⟩
  go_wp2_with fail
  refine (N2 _).out.mono ?_; rintro e w1 ⟨rfl, rfl⟩
  go_wp2_with fail
  go_ret
  exact ⟨rfl, rfl⟩
 ·rw [if_neg c1]
  rw [decide_eq_false c1] at h1
  by_cases c2 : z.data.toList < x.data.toList
  ·rw [if_pos c2]
   rw [decide_eq_true c2] at h2
   have h3 : (x.toList == z.toList) = false := by
    rw [beq_eq_false_iff_ne]
    intro e
    rw [Lib.toList_data, Lib.toList_data] at e
    rw [e] at c2
    exact List.lt_irrefl _ c2
   clear c1 c2
   go_enter Tryz.func39, Tryz.ntmps39
   go_wp2_with fail
   refine (N1 _).out.mono ?_; rintro e w1 ⟨rfl, rfl⟩
   go_wp2_with fail
   refine (N2 _).out.mono ?_; rintro e w1 ⟨rfl, rfl⟩
   go_wp2_with fail
   go_ret
   exact ⟨rfl, rfl⟩
  ·rw [if_neg c2]
   rw [decide_eq_false c2] at h2
   have h3 : (x.toList == z.toList) = true := by
    rw [beq_iff_eq, Lib.toList_data, Lib.toList_data]
    exact List.le_antisymm (List.not_lt.1 c2) (List.not_lt.1 c1)
   clear c1 c2
   go_enter Tryz.func39, Tryz.ntmps39
   go_wp2_with fail
   refine (N1 _).out.mono ?_; rintro e w1 ⟨rfl, rfl⟩
   go_wp2_with fail
   refine (N2 _).out.mono ?_; rintro e w1 ⟨rfl, rfl⟩
   go_wp2_with fail
   go_ret
   exact ⟨rfl, rfl⟩
theorem g_order (p q : ByteArray × ByteArray) (w : World) : Calls Tryz.prog 183 #[.agg #[.string p.1, .string p.2], .agg #[.string q.1, .string q.2]] w fun e w' => e = .returned (.int .i64 (cmpK p q)) ∧ ∃ n os', w' = grow (w.drewN n) os' := by
 obtain ⟨p1, p2⟩ := p
 obtain ⟨q1, q2⟩ := q
 dsimp only
 have HC := fun V => hid (s_Compare V p1 q1)
 unfold cmpK keyL
 dsimp only
 obtain ⟨r, hr⟩ : ∃ r : Int, (if p1.data.toList < q1.data.toList then (-1 : Int) else if q1.data.toList < p1.data.toList then 1 else 0) = r := ⟨_, rfl⟩
 rw [hr] at HC ⊢
 clear hr
 go_enter Tryz.func183, Tryz.ntmps183
 go_wp2_with fail
 refine (HC _).out.mono ?_; rintro e w1 ⟨rfl, rfl⟩
 go_wp2_with fail
 go_ret
 exact ⟨rfl, 0, _, by rw [alloc_eq_grow, alloc_eq_grow, grow_grow]; rfl⟩
end Go.Proofs.YtckihjfkafdncaaGreatDoor
namespace Go.Proofs.YtckihjfkafdncaaGreatDoor
open Go.RowKit
open Go.Maps
open Go.Lib (decDigits nDigits)
structure ReadsI {H : Type} (D : DataW H) (c : Int → Nat) : Prop where
 map : IsMap D
 has : ∀ v : Int, Maps.has D (.int .i64 v) = decide (c v ≠ 0)
 look : ∀ v : Int, c v ≠ 0 → ∀ z, D.atKey (.int .i64 v) z = .lit (.string (numB (c v)).data.toList)
theorem ReadsI.nil {H : Type} : ReadsI (.map [] : DataW H) (fun _ => 0) :=
 ⟨isMap_empty, fun v => by simp [Maps.has_eq], fun v h => absurd rfl h⟩
theorem ReadsI.put {H : Type} {D : DataW H} {c : Int → Nat} (h : ReadsI D c) (v : Int) {x : Nat} (hx : 0 < x) :
 ReadsI (D.put (.int .i64 v) (.lit (.string (numB (c v + x)).data.toList))) (addM c v x) := by
 refine ⟨h.map.put _ _, fun y => ?_, fun y hy z => ?_⟩
 ·by_cases e : y = v
  ·subst e
   rw [has_put_same h.map (show WideAt.IsKeyLit (.int .i64 y) from trivial)]
   unfold addM
   rw [if_pos rfl]
   simp; omega
  ·rw [has_put_other (fun e' => e (by injection e')), h.has]
   unfold addM
   rw [if_neg e]
 ·by_cases e : y = v
  ·subst e
   rw [atKey_put_same h.map (show WideAt.IsKeyLit (.int .i64 y) from trivial)]
   unfold addM
   rw [if_pos rfl]
  ·unfold addM at hy ⊢
   rw [if_neg e] at hy ⊢
   rw [atKey_put_other (fun e' => e (by injection e'))]
   exact h.look y hy z
def cellB (x : Nat) : ByteArray := if x = 0 then ⟨#[]⟩ else numB x
theorem look_i {H : Type} {w : World} {B nn : Nat} {D : DataW H} {c : Int → Nat} (hown : w.ownsMap Tryz.prog 3 (plainElem Tryz.prog 22) B nn D) (hR : ReadsI D c) {v : Int} (hw : (Lit.int .i64 v).wf = true) :
 (Instr.lookup 198 (.map (some B)) (.int .i64 v) false).run Tryz.prog w = .ok (.string (cellB (c v))) w := by
 obtain ⟨x, ps, h1, h2⟩ := hown.lookup (int_keyed Tryz.underlying3) Tryz.underlying198 (zero_num w) (plainElem_string Tryz.underlying22 (s := ⟨#[]⟩) (Nat.zero_le _)) (keyOf_int_mk Tryz.underlying3 hw)
 rw [h1]
 unfold cellB
 by_cases h0 : c v = 0
 ·rw [if_pos h0]
  rw [atKey_of_not_has (by rw [hR.has, h0]; rfl)] at h2
  obtain ⟨s, rfl, h3, -⟩ := plainElem_string_inv Tryz.underlying22 h2
  simp only [Prod.mk.injEq, DataW.lit.injEq, Lit.string.injEq] at h3
  have e : s = (⟨#[]⟩ : ByteArray) := ba_ext (by simpa using h3.1.symm)
  rw [e]
 ·rw [if_neg h0]
  rw [hR.look v h0] at h2
  obtain ⟨s, rfl, h3, -⟩ := plainElem_string_inv Tryz.underlying22 h2
  simp only [Prod.mk.injEq, DataW.lit.injEq, Lit.string.injEq] at h3
  rw [ba_ext h3.1]
end Go.Proofs.YtckihjfkafdncaaGreatDoor
namespace Go.Proofs.YtckihjfkafdncaaGreatDoor
open Go.RowKit
open Go.Shelf
open Go.Lib (decDigits nDigits)
def rowV (n g : Nat) : Value := .slice (some ⟨g, 0, none⟩) (n + 1) (n + 1)
structure TabR (W : World) (gt n : Nat) (f : Nat → List Nat) : Prop where
 len : ∀ i, i ≤ n → (f i).length = n + 1
 ex : ∃ g c, n + 1 ≤ c ∧ c ≤ 9223372036854775807 ∧ W.cell? ⟨gt, 0, none⟩ = some (.slice (some ⟨g, 0, none⟩) (n + 1) c) ∧ W.cell? ⟨gt, 1, none⟩ = some (.string ⟨#[48]⟩) ∧ ∀ i, i ≤ n → ∃ gr, W.cell? ⟨g, i, none⟩ = some (rowV n gr) ∧ NRowT W gr (f i)
theorem TabR.call {W W' : World} {gt n : Nat} {f : Nat → List Nat} (h : TabR W gt n f) (hb : Below W.heap.size W W') : TabR W' gt n f := by
 obtain ⟨h0, g, c, h1, h2, h3, h4, h5⟩ := h
 refine ⟨h0, g, c, h1, h2, (hb.cell (cell_lt h3)).trans h3, (hb.cell (cell_lt h4)).trans h4, fun i hi => ?_⟩
 obtain ⟨gr, k1, k2⟩ := h5 i hi
 exact ⟨gr, (hb.cell (cell_lt k1)).trans k1, k2.call hb⟩
theorem tb_at (w : World) (gt n i k : Nat) (f : Nat → List Nat) (h : TabR w gt n f) (hi : i ≤ n) (hk : k ≤ n) (hn : n ≤ 100000) :
 Calls Tryz.prog 244 #[.pointer (some ⟨gt, 0, none⟩), .int .i64 (i : Nat), .int .i64 (k : Nat)] w fun e w' => e = .returned (.string (numB ((f i).getD k 0))) ∧ w = w' := by
 obtain ⟨h0, g, c, h1, h2, r0, r1, h5⟩ := h
 obtain ⟨gr, r2, k2⟩ := h5 i hi
 have r3 := k2.cell (i := k) (by rw [h0 i hi]; omega)
 unfold rowV at r2
 obtain ⟨X, hX⟩ : ∃ s, numB ((f i).getD k 0) = s := ⟨_, rfl⟩
 rw [hX] at r3 ⊢
 have b1 : (0 : Int) ≤ (i : Int) := by omega
 have b2 : (i : Int) < ((n + 1 : Nat) : Int) := by omega
 have b3 : (0 : Int) ≤ (k : Int) := by omega
 have b4 : (k : Int) < ((n + 1 : Nat) : Int) := by omega
 obtain ⟨m, hm⟩ : ∃ m, n + 1 = m := ⟨_, rfl⟩
 rw [hm] at r0 r2 b2 b4 h1
 have t1 : decide ((i : Int) < 0) = false := by simp
 have t2 : decide (m ≤ i) = false := by simp; omega
 have t3 : decide ((k : Int) < 0) = false := by simp
 have t4 : decide (m ≤ k) = false := by simp; omega
 clear h0 h5 k2 hX hi hk hn hm
 go_enter Tryz.func244, Tryz.ntmps244
 go_wp2_with fail
 go_ret
 exact ⟨rfl, rfl⟩
structure TabO (W : World) (H gt : Nat) (rv : Value) (gs : List Nat) (n r : Nat) (f : Nat → List Nat) : Prop where
 blk : Blk W gt #[rv, .string ⟨#[48]⟩] 260
 own : W.ownsRow H 60 1 rv gs.length (gs.map (rowV n))
 rows : ∀ i g, i < r → gs[i]? = some g → NRowT W g (f i)
 ne : rv.ownBlock ≠ some gt
 sep : ∀ i g, i < r → gs[i]? = some g → rv.ownBlock ≠ some g
 gne : ∀ i g, i < r → gs[i]? = some g → g ≠ gt
theorem NRowT.lt' {w : World} {g : Nat} {l : List Nat} (h : NRowT w g l) : g < w.heap.size := Blk.lt h
theorem owns_set {W : World} {H : Nat} {e : TypeId} {rv : Value} {n : Nat} {xs : List Value} (h : W.ownsRow H e 1 rv n xs) {a : Addr} (h2 : rv.ownBlock ≠ some a.block) (v : Value) : (W.setCell a v).ownsRow H e 1 rv n xs := by
 refine ⟨h.1, ?_⟩
 rcases h.2 with h0 | ⟨g, cap, cur, rfl, k1, k2, k3⟩
 ·exact .inl h0
 ·refine .inr ⟨g, cap, cur, rfl, k1, ?_, k3⟩
  have hg : g ≠ a.block := fun e => h2 (by rw [← e]; rfl)
  rw [← k2]
  unfold World.setCell
  simp [Array.getElem?_modify, Ne.symm hg]
theorem TabO.call {W W' : World} {H gt : Nat} {rv : Value} {gs : List Nat} {n r : Nat} {f : Nat → List Nat} (h : TabO W H gt rv gs n r f) (hb : Below W.heap.size W W') : TabO W' H gt rv gs n r f :=
 ⟨h.blk.call hb, owns_call h.own hb, fun i g hi hg => (h.rows i g hi hg).call hb, h.ne, h.sep, h.gne⟩
theorem TabO.other {W : World} {H gt : Nat} {rv : Value} {gs : List Nat} {n r : Nat} {f : Nat → List Nat} (h : TabO W H gt rv gs n r f) {a : Addr} (h1 : a.block ≠ gt) (h2 : rv.ownBlock ≠ some a.block) (h3 : ∀ i g, i < r → gs[i]? = some g → a.block ≠ g) (v : Value) : TabO (W.setCell a v) H gt rv gs n r f := by
 exact ⟨h.blk.other h1 v, owns_set h.own h2 v, fun i g hi hg => (h.rows i g hi hg).other (h3 i g hi hg) v, h.ne, h.sep, h.gne⟩
structure KpR (gt : Nat) (rb : Option Nat) (W W' : World) : Prop where
 os : W'.os = W.os
 tape : W'.tape = W.tape
 output : W'.output = W.output
 size : W.heap.size ≤ W'.heap.size
 block : ∀ i, i < W.heap.size → i ≠ gt → some i ≠ rb → W'.heap[i]? = W.heap[i]?
theorem TabO.drew {W : World} {H gt : Nat} {rv : Value} {gs : List Nat} {n r : Nat} {f : Nat → List Nat} (h : TabO W H gt rv gs n r f) : TabO W.drew H gt rv gs n r f := ⟨h.blk, h.own, h.rows, h.ne, h.sep, h.gne⟩
theorem KpR.drew {gt : Nat} {rb : Option Nat} {W W' : World} (h : KpR gt rb W W') : KpR gt rb W W'.drew := ⟨h.os, h.tape, h.output, h.size, h.block⟩
theorem info_nums : (Tryz.prog.info? 60).map (fun i => (i.zero, i.size, i.bytes)) = some (some (.slice none 0 0), 1, 24) := by kernel_rfl
theorem tb_row (w : World) (H gt : Nat) (rv : Value) (gs : List Nat) (n r : Nat) (f : Nat → List Nat) (h : TabO w H gt rv gs n r f) (hr : r ≤ gs.length) (hgs : gs.length ≤ 1000) (hn : n ≤ 1000) (hH : H ≤ w.heap.size) :
 Calls Tryz.prog 276 #[.pointer (some ⟨gt, 0, none⟩), .int .i64 ((n + 1 : Nat) : Int)] w fun e w' => ∃ g rv', e = .returned (rowV n g) ∧ w.heap.size ≤ g ∧ NRowT w' g (List.replicate (n + 1) 0) ∧ TabO w' H gt rv' (gs ++ [g]) n r f ∧ rv'.ownBlock ≠ some g ∧ (rv'.ownBlock = rv.ownBlock ∨ ∃ b, rv'.ownBlock = some b ∧ w.heap.size ≤ b) ∧ KpR gt rv.ownBlock w w' := by
 obtain ⟨i0, hi, hz0, hz1, hz2⟩ := info_parts info_nums
 have HR := fun V g h => hid (s_Repeat V g (n + 1) ⟨#[48]⟩ (by omega) (by omega) h)
 have hgt : gt < w.heap.size := h.blk.lt
 have r0 := h.blk.cell 0
 have r1 := h.blk.cell 1
 simp at r0 r1
 have T0 := hid h
 have HGT := hid hgt; have HHS := hid hH; have HGS := hid hgs; have HRL := hid hr
 obtain ⟨ar, cr, hrv⟩ := owns_ex h.own
 obtain ⟨L, hL⟩ : ∃ L, gs.length = L := ⟨_, rfl⟩
 have HLL := hid hL
 obtain ⟨m, hm⟩ : ∃ m, n + 1 = m := ⟨_, rfl⟩
 have HM := hid hm
 have KK : Hid (∀ W, Below w.heap.size w W → W.cell? ⟨gt, 0, none⟩ = some rv ∧ W.cell? ⟨gt, 1, none⟩ = some (.string ⟨#[48]⟩)) := fun W hW => ⟨(hW.cell (cell_lt r0)).trans r0, (hW.cell (cell_lt r1)).trans r1⟩
 rw [hm] at HR ⊢
 have HRV := hid hrv
 clear h hgt hH hgs hr hL hm hrv hn
 go_enter Tryz.func276, Tryz.ntmps276
 go_wp2_with fail
 refine held_lasts 14 3 [0, 1, 2, 3, 4, 5, 6, 7, 8, 10] 4 (fun W' => W'.cell? ⟨gt, 0, none⟩ = some rv ∧ W'.cell? ⟨gt, 1, none⟩ = some (.string ⟨#[48]⟩)) (by kernel_rfl) rfl (by kernel_rfl) (by kernel_rfl) (by kernel_rfl) (by kernel_rfl) (KK.out _ (Below.refl _ _).drew) ?_
 iterate 10
  refine ⟨_, rfl, ?_⟩
  apply Exists.intro
  refine ⟨.inl ⟨by rfl, ?_⟩, ?_⟩
  ·(intro W' hW'; obtain ⟨q1, q2⟩ := hW'; go_simp; try (with_reducible rfl))
  (dsimp only [Act.put]; try simp only [List.setIfInBounds_toArray, List.set_cons_zero, List.set_cons_succ])
 refine held_one (i := 9) (by kernel_rfl) (by rfl) (by rfl) ?_
 go_wp2_with fail
 have A1 := hid (show Below w.heap.size w (w.alloc (.cells #[.string ⟨#[48]⟩] 22)).drew from ((Below.refl _ _).alloc (Nat.le_refl _) _).drew)
 have C1 : (w.alloc (.cells #[.string ⟨#[48]⟩] 22)).drew.cell? ⟨w.heap.size, 0, none⟩ = some (.string ⟨#[48]⟩) := (Blk.new w #[.string ⟨#[48]⟩] 22).cell 0
 refine ⟨KK.out _ A1.out, ?_⟩
 refine held_one (i := 11) (by kernel_rfl) (by rfl) (by rfl) ?_
 go_wp2_with fail
 refine (HR _ _ C1).out.mono ?_; rintro e w2 ⟨rfl, hg, hb⟩
 obtain ⟨g, hgg⟩ : ∃ g, (w.alloc (.cells #[.string ⟨#[48]⟩] 22)).drew.heap.size = g := ⟨_, rfl⟩
 have B2 := hid (bnext A1.out hb)
 rw [hgg] at hg ⊢
 have HG : Hid (w.heap.size < g) := by rw [← hgg]; show _ < _; simp
 have R2 := hid (NRowT.zeros hg)
 have L2 := hid (show g < w2.heap.size from hg.lt)
 clear hg hb hgg C1
 go_wp2_with fail
 refine ⟨KK.out _ B2.out, ?_⟩
 refine held_one (i := 12) (by kernel_rfl) (by rfl) (by rfl) ?_
 go_wp2_with fail
 have A3 := hid (show Below w.heap.size w (w2.alloc (.cells #[.slice (some ⟨g, 0, none⟩) m m] 60)) from B2.out.alloc B2.out.size _)
 refine ⟨KK.out _ A3.out, ?_⟩
 refine held_one (i := 13) (by kernel_rfl) (by rfl) (by rfl) ?_
 have O3 := hid (((T0.out.call B2.out).own).alloc (.cells #[.slice (some ⟨g, 0, none⟩) m m] 60))
 refine wpList_append_own_at _ rfl _ _ 258 rfl H 60 i0 (.slice none 0 0) 1 24 Tryz.underlying258 hi hz0 hz1 hz2 rfl (by decide) rv gs.length (gs.map (rowV n)) rfl O3.out ⟨w2.heap.size, 0, none⟩ 1 1 [.slice (some ⟨g, 0, none⟩) m m] rfl rfl (cell_one_new w2 (.slice (some ⟨g, 0, none⟩) m m) 60) (by simp [Value.oneCell']) (by have := HGS.out; unfold maxLen; omega) (by have := HGS.out; omega) (by have := HHS.out; have := B2.out.size; simp; omega) ?_
 intro rv' w3 hown3 hgrow3 _ hat3
 have hat4 : rv'.ownBlock = rv.ownBlock ∨ rv'.ownBlock = some (w2.heap.size + 1) := by simpa using hat3
 have OW := hid hown3; have GR := hid hgrow3; have AT := hid hat4
 clear hown3 hgrow3 hat3 hat4
 have c30 : w3.cell? ⟨gt, 0, none⟩ = some rv := by
  have := GR.out.cell (KK.out _ A3.out).1 (fun e => T0.out.ne e.symm)
  exact this
 have c31 : w3.cell? ⟨gt, 1, none⟩ = some (.string ⟨#[48]⟩) := GR.out.cell (KK.out _ A3.out).2 (fun e => T0.out.ne e.symm)
 have X3 : Hid (Blk w3 gt #[rv, .string ⟨#[48]⟩] 260) := ((T0.out.blk.call B2.out).alloc _).grown GR.out (fun e => T0.out.ne e)
 go_wp2_with fail
 refine ⟨⟨c30, c31⟩, ?_⟩
 refine wpAnyH_done (by kernel_rfl) ?_ _
 simp only [Only, ThenL, List.drop_succ_cons, List.drop_zero]
 have f3 := X3.out.free 0
 have NE3 : Hid (rv'.ownBlock ≠ some gt) := by
  rcases AT.out with e | e
  ·show rv'.ownBlock ≠ some gt
   rw [e]; exact T0.out.ne
  ·show rv'.ownBlock ≠ some gt
   rw [e]; intro hh; have := Option.some.inj hh; have := HGT.out; have := B2.out.size; omega
 have NEG : Hid (rv'.ownBlock ≠ some g) := by
  rcases AT.out with e | e
  ·show rv'.ownBlock ≠ some g
   rw [e]; intro hh; have := (T0.out.own.lt g hh).2; have := HG.out; omega
  ·show rv'.ownBlock ≠ some g
   rw [e]; intro hh; have := Option.some.inj hh; have := L2.out; omega
 have AT2 : Hid (rv'.ownBlock = rv.ownBlock ∨ ∃ b, rv'.ownBlock = some b ∧ w.heap.size ≤ b) := AT.out.imp id fun e => ⟨_, e, Nat.le_succ_of_le B2.out.size⟩
 have KP : Hid (KpR gt rv.ownBlock w w3) := ⟨GR.out.os.trans A3.out.os, GR.out.tape.trans A3.out.tape, GR.out.output.trans A3.out.output, Nat.le_trans A3.out.size GR.out.size, fun i hi _ h2 => (GR.out.block i (by have := A3.out.size; omega) h2).trans (A3.out.block i hi)⟩
 have N3 : Hid (NRowT w3 g (List.replicate m 0)) := Blk.grown (Blk.alloc R2.out _) GR.out (fun e => by have := (T0.out.own.lt g e).2; have := HG.out; omega)
 have RO : Hid (∀ i g', i < r → gs[i]? = some g' → NRowT w3 g' (f i)) := fun i g' hi2 hg' => Blk.grown (Blk.alloc ((T0.out.rows i g' hi2 hg').call B2.out) _) GR.out (T0.out.sep i g' hi2 hg')
 have GSR : Hid (∀ i g', i < r → gs[i]? = some g' → g' ≠ gt) := fun i g' hi2 hg' => T0.out.gne i g' hi2 hg'
 obtain ⟨gr, cap, rfl⟩ := ownsRow_succ OW.out
 have HGR : Hid (gr ≠ gt) := fun e => NE3.out (by rw [e]; rfl)
 go_wp2_with fail
 try simp only [Only]
 obtain ⟨w4, hw4⟩ : ∃ W, w3.setCell ⟨gt, 0, none⟩ (.slice (some ⟨gr, 0, none⟩) (gs.length + 1) cap) = W := ⟨_, rfl⟩
 have T4 : Hid (TabO w4 H gt (.slice (some ⟨gr, 0, none⟩) (gs.length + 1) cap) (gs ++ [g]) n r f) := by
  refine ⟨?_, ?_, fun i g' hi2 hg' => ?_, NE3.out, ?_, ?_⟩
  ·rw [← hw4]; exact X3.out.set 0 _
  ·rw [← hw4, List.length_append, List.map_append]
   have hl : (gs.map (rowV n) ++ [Value.slice (some ⟨g, 0, none⟩) m m]) = gs.map (rowV n) ++ [g].map (rowV n) := by rw [← HM.out]; rfl
   rw [← hl]
   exact owns_set OW.out (fun e => HGR.out (by simpa [Value.ownBlock] using e)) _
  ·have hlt : i < gs.length := Nat.lt_of_lt_of_le hi2 HRL.out
   rw [List.getElem?_append_left hlt] at hg'
   rw [← hw4]
   exact (RO.out i g' hi2 hg').other (GSR.out i g' hi2 hg').symm _
  ·intro i g' hi2 hg'
   have hlt : i < gs.length := Nat.lt_of_lt_of_le hi2 HRL.out
   rw [List.getElem?_append_left hlt] at hg'
   rcases AT.out with e | e
   ·rw [e]; exact T0.out.sep i g' hi2 hg'
   ·rw [e]; intro hh; have := Option.some.inj hh; have := (T0.out.rows i g' hi2 hg').lt'; have := B2.out.size; omega
  ·intro i g' hi2 hg'
   have hlt : i < gs.length := Nat.lt_of_lt_of_le hi2 HRL.out
   rw [List.getElem?_append_left hlt] at hg'
   exact T0.out.gne i g' hi2 hg'
 have N4 : Hid (NRowT w4 g (List.replicate m 0)) := by rw [← hw4]; exact N3.out.other (by have := HG.out; have := HGT.out; show gt ≠ g; omega) _
 have K4 : Hid (KpR gt rv.ownBlock w w4) := by
  rw [← hw4]
  refine ⟨KP.out.os, KP.out.tape, KP.out.output, by simpa [World.setCell] using KP.out.size, fun i hi h1 h2 => ?_⟩
  rw [← KP.out.block i hi h1 h2]
  unfold World.setCell
  simp [Array.getElem?_modify, Ne.symm h1]
 rw [hw4]
 have s0 := T4.out.blk.cell 0
 simp at s0
 have s1 : w4.cell? ⟨gr, gs.length, none⟩ = some (.slice (some ⟨g, 0, none⟩) m m) := by
  obtain ⟨g', o', e1, -, e2⟩ := (Row.of_owns T4.out.own).at (i := gs.length) (x := rowV n g) (by rw [List.map_append, List.getElem?_append_right (by simp)]; simp)
  simp only [Option.some.injEq, Addr.mk.injEq] at e1
  obtain ⟨rfl, rfl, -⟩ := e1
  rw [Nat.zero_add] at e2
  rw [e2, rowV, HM.out]
 have wl : IntKind.i64.wrap (((gs.length + 1 : Nat) : Int) - 1) = (gs.length : Int) := by rw [IntWalk.i64_in _ ⟨by omega, by have := HGS.out; omega⟩]; omega
 have wl2 : IntKind.i64.wrap ((gs.length : Int) + 1 - 1) = (gs.length : Int) := by rw [IntWalk.i64_in _ ⟨by omega, by have := HGS.out; omega⟩]; omega
 have b1 : (0 : Int) ≤ (gs.length : Int) := by omega
 have b2 : (gs.length : Int) < ((gs.length + 1 : Nat) : Int) := by omega
 have wl3 : IntKind.i64.wrap (gs.length : Int) = (gs.length : Int) := by rw [IntWalk.i64_in _ ⟨by omega, by have := HGS.out; omega⟩]
 have b3 : (gs.length : Int) < (gs.length : Int) + 1 := by omega
 clear hw4 c30 c31 f3
 refine held_plain [0, 1, 2, 3, 4, 5, 6, 7, 8, 9, 10, 11, 12] 0 (fun W' => W'.cell? ⟨gt, 0, none⟩ = some (.slice (some ⟨gr, 0, none⟩) (gs.length + 1) cap) ∧ W'.cell? ⟨gr, gs.length, none⟩ = some (.slice (some ⟨g, 0, none⟩) m m)) (by kernel_rfl) (by kernel_rfl) (by kernel_rfl) (by kernel_rfl) ⟨s0, s1⟩ ?_
 iterate 13
  refine ⟨_, rfl, ?_⟩
  apply Exists.intro
  refine ⟨.inl ⟨by rfl, ?_⟩, ?_⟩
  ·(intro W' hW'; obtain ⟨q3, q4⟩ := hW'; go_simp; try (with_reducible rfl))
  (dsimp only [Act.put]; try simp only [List.setIfInBounds_toArray, List.set_cons_zero, List.set_cons_succ])
 refine wpAnyH_done (by kernel_rfl) ?_ _
 simp only [Only]
 go_wp2_with fail
 go_ret
 refine ⟨g, _, by rw [rowV, HM.out]; rfl, Nat.le_of_lt HG.out, N4.out, T4.out.drew, NEG.out, AT2.out, K4.out.drew⟩
end Go.Proofs.YtckihjfkafdncaaGreatDoor
