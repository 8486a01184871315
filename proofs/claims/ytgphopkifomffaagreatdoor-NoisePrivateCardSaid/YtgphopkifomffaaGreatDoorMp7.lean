/- Texts that the proof rests on, merged: Rt8, Na5, Sn0, Nn0, PkP, Lits, KsI, Nlv, R2r, R2b, R2p, R2c, R2o, R2t, R2s. -/
import Derived.Test.YtgphopkifomffaaGreatDoorMp6
import Derived.IntWalk
import Derived.Deep.RegionHeld3
import Derived.Deep.DeepCutAuto
set_option linter.unusedVariables false
set_option linter.unusedSimpArgs false
set_option linter.unusedSectionVars false
set_option maxRecDepth 100000
set_option maxHeartbeats 8000000
namespace Go.Proofs.YtgphopkifomffaaGreatDoor
open Go.RowKit
open Go.Shelf
open Go.Lib (decDigits nDigits)
theorem q_PowN1 (w : World) (v : Value) (q : Rat) (n g1 : Nat) (z : Int) (hp : IsQ .u64 w v q) (sp : Sml 1000 q) (h0 : q ≠ 0) (hn1 : 1 ≤ n) (hn : n ≤ 1000000000) (hzn : z = -(n : Int)) (hL : Lay w) (c1 : w.cell? ⟨g1, 0, none⟩ = some (.int .i64 z)) :
 Calls Tryz.prog 81 #[v, .pointer (some ⟨g1, 0, none⟩)] w fun e w' => e = .returned (.tuple #[.string (outB (q⁻¹ ^ n)), .int .i64 (outE (q⁻¹ ^ n))]) ∧ Below w.heap.size w w' := by
 have FS := fun V v hv => hid (f_Sign V v q hv)
 have FI := fun V v hv => hid (f_Inv V v q hv h0)
 have sg := sg_ne h0
 have spi := sml_inv h0 sp
 obtain ⟨sx, hz⟩ : ∃ z, sgQ q = z := ⟨_, rfl⟩
 rw [hz] at FS sg
 obtain ⟨p, hpq⟩ : ∃ p, q⁻¹ = p := ⟨_, rfl⟩
 rw [hpq] at FI spi ⊢
 have F1 := fun V v hv hV => hid (l_Pow V v p.num.natAbs n hv (Nat.le_trans spi.n (by omega)) (by omega) hV)
 have F2 := fun V v hv hV => hid (l_Pow V v p.den n hv (Nat.le_trans spi.d (by omega)) (by omega) hV)
 obtain ⟨e1, e2, e3⟩ := pow_parts p n
 have HOV := hid (fun h => pow_over (q := p) (n := n) h)
 have F3 := fun V v hv hV (h1 : nDigits (p.num.natAbs ^ n) ≤ 4000) (h2 : nDigits (p.den ^ n) ≤ 4000) => hid (f_Num V v (p ^ n) hv (by rw [e2]; exact Nat.le_trans (limbs_of_digits h1) (by omega)) (by rw [e3]; exact Nat.le_trans (limbs_of_digits h2) (by omega)) hV)
 obtain ⟨B, hB⟩ : ∃ B, outB (p ^ n) = B := ⟨_, rfl⟩
 obtain ⟨E, hE⟩ : ∃ E, outE (p ^ n) = E := ⟨_, rfl⟩
 rw [hB, hE] at F3 HOV ⊢
 clear hB hE
 have HL := hid hL
 obtain ⟨N1, D1, rfl, hn1', hd1⟩ := hp.ex
 obtain ⟨a1, c1', rfl, _⟩ := hn1'.openI
 obtain ⟨a2, c2', rfl, _⟩ := hd1.openI
 obtain ⟨k1, hk1⟩ : ∃ k, (limbs q.num.natAbs).length = k := ⟨_, rfl⟩
 obtain ⟨k2, hk2⟩ : ∃ k, (limbs q.den).length = k := ⟨_, rfl⟩
 obtain ⟨mq, hmq⟩ : ∃ m, decide (q.num < 0) = m := ⟨_, rfl⟩
 rw [hk1, hk2, hmq] at hp ⊢
 have X1 := hid (Blk.new w #[.bool mq, .slice a1 k1 c1', .slice a2 k2 c2'] 101)
 have b1 := hid ((Below.refl w.heap.size w).alloc (Nat.le_refl _) (.cells #[.bool mq, .slice a1 k1 c1', .slice a2 k2 c2'] 101))
 have HP := hid (hp.call b1.out)
 have r0 := X1.out.cell 0
 have r1 := X1.out.cell 1
 have r2 := X1.out.cell 2
 have C1 := (b1.out.cell (cell_lt c1)).trans c1
 simp at r0 r1 r2
 have q0 : decide (z < 0) = true := decide_eq_true (by omega)
 obtain ⟨u, hu⟩ : ∃ u : Int, 18446744073709551616 - (n : Int) = u := ⟨_, rfl⟩
 have w0 : IntKind.u64.wrap z = u := by simp [IntKind.wrap, IntKind.bits, IntKind.signed]; omega
 have w1 : IntKind.u64.wrap (-u) = (n : Int) := by simp [IntKind.wrap, IntKind.bits, IntKind.signed]; omega
 have E1 := hid e1; have E2 := hid e2; have E3 := hid e3; have HN := hid hn
 clear hk1 hk2 hmq hn1' hd1 hp hL sp spi e1 e2 e3 c1 hn hn1 h0 hz hpq hzn hu
 go_enter Tryz.func81, Tryz.ntmps81
 go_wp2_with fail
 refine (FS _ _ HP.out).out.mono ?_; rintro e w2 ⟨rfl, hb2⟩
 have y2 := hid (bnext b1.out hb2); have X2 := hid (X1.out.call hb2); have C2 := (hb2.cell (cell_lt C1)).trans C1; have HP2 := hid (HP.out.call hb2)
 clear hb2 r0 r1 r2 C1
 have r0 := X2.out.cell 0
 have r1 := X2.out.cell 1
 have r2 := X2.out.cell 2
 simp at r0 r1 r2
 go_wp2_with fail
 refine (FI _ _ HP2.out).out.mono ?_; rintro e w3 ⟨⟨vi, rfl, hvi⟩, hb3⟩
 have y3 := hid (bnext y2.out hb3); have X3 := hid (X2.out.call hb3); have C3 := (hb3.cell (cell_lt C2)).trans C2
 obtain ⟨N3, D3, rfl, hn3, hd3⟩ := hvi.ex
 obtain ⟨a3, c3, rfl, _⟩ := hn3.openI
 obtain ⟨a4, c4, rfl, _⟩ := hd3.openI
 obtain ⟨k3, hk3⟩ : ∃ k, (limbs p.num.natAbs).length = k := ⟨_, rfl⟩
 obtain ⟨k4, hk4⟩ : ∃ k, (limbs p.den).length = k := ⟨_, rfl⟩
 obtain ⟨m1, hm1⟩ : ∃ m, decide (p.num < 0) = m := ⟨_, rfl⟩
 rw [hk3, hk4, hm1] at hvi ⊢
 rw [hk3] at hn3
 rw [hk4] at hd3
 have E1' := E1.out
 rw [hm1] at E1'
 have E1 := hid E1'
 have HN3 := hid hn3; have HD3 := hid hd3
 clear hb3 r0 r1 r2 C2 hk3 hk4 hm1 hvi hn3 hd3 E1'
 have r0 := X3.out.cell 0
 have r1 := X3.out.cell 1
 have r2 := X3.out.cell 2
 have f0 := X3.out.free 0
 have f1 := X3.out.free 1
 have f2 := X3.out.free 2
 simp at r0 r1 r2
 obtain ⟨s1, s2⟩ := set3 X3.out m1 a3 a4 k3 c3 k4 c4
 have N2 := hid (s1 _ _ _ HN3.out)
 have D2 := hid (s1 _ _ _ HD3.out)
 have X0 := hid s2
 have y0 : Hid (Below w.heap.size w (((w3.setCell ⟨w.heap.size, 0, none⟩ (.bool m1)).setCell ⟨w.heap.size, 1, none⟩ (.slice a3 k3 c3)).setCell ⟨w.heap.size, 2, none⟩ (.slice a4 k4 c4))) := ((y3.out.setCell (Nat.le_refl _) _).setCell (Nat.le_refl _) _).setCell (Nat.le_refl _) _
 clear s1 s2
 go_wp2_with fail
 clear f0 f1 f2
 refine (F1 _ _ N2.out (HL.out.call y0.out)).out.mono ?_; rintro e w3 ⟨hr3, hb3⟩
 have y3 := hid (bnext y0.out hb3); have X3 := hid (X0.out.call hb3); have D3 := hid (D2.out.call hb3)
 clear hb3 r0 r1 r2
 have r0 := X3.out.cell 0
 have r1 := X3.out.cell 1
 have r2 := X3.out.cell 2
 simp at r0 r1 r2
 rcases hr3 with ⟨l3, v3, rfl, hv3⟩ | ⟨l3, rfl⟩
 ·obtain ⟨a3, c3, rfl, _⟩ := hv3.openI
  obtain ⟨k3, hk3⟩ : ∃ k, (limbs (p.num.natAbs ^ n)).length = k := ⟨_, rfl⟩
  rw [hk3] at hv3 ⊢
  have V3 := hid hv3; have L3 := hid l3
  clear hk3 hv3 l3
  go_wp2_with fail
  refine (F2 _ _ D3.out (HL.out.call y3.out)).out.mono ?_; rintro e w4 ⟨hr4, hb4⟩
  have y4 := hid (bnext y3.out hb4); have X4 := hid (X3.out.call hb4); have V4 := hid (V3.out.call hb4)
  clear hb4 r0 r1 r2
  have r0 := X4.out.cell 0
  have r1 := X4.out.cell 1
  have r2 := X4.out.cell 2
  simp at r0 r1 r2
  rcases hr4 with ⟨l4, v4, rfl, hv4⟩ | ⟨l4, rfl⟩
  ·obtain ⟨a4, c4, rfl, _⟩ := hv4.openI
   obtain ⟨k4, hk4⟩ : ∃ k, (limbs (p.den ^ n)).length = k := ⟨_, rfl⟩
   rw [hk4] at hv4 ⊢
   have W4 := hid hv4; have L4 := hid l4
   clear hk4 hv4 l4
   have M := hid (show IsQ .u64 w4 (.agg #[.bool (m1 && decide (n % 2 = 1)), .slice a3 k3 c3, .slice a4 k4 c4]) (p ^ n) from ⟨_, _, by rw [E1.out], by rw [E2.out]; exact V4.out, by rw [E3.out]; exact W4.out⟩)
   obtain ⟨Q, hQ⟩ : ∃ Q, p ^ n = Q := ⟨_, rfl⟩
   rw [hQ] at F3 M
   clear hQ HOV F1 F2
   have F4 := F3 _ _ M.out (HL.out.call y4.out) L3.out L4.out
   cases m1
   ·simp only [Bool.false_and] at F4
    go_wp2_with fail
    refine F4.out.mono ?_; rintro e w5 ⟨rfl, hb5⟩
    have y5 := hid (bnext y4.out hb5); clear hb5
    go_wp2_with fail
    go_ret2
    exact ⟨rfl, y5.out⟩
   ·simp only [Bool.true_and] at F4
    have e9 : ((n : Int) % 2 == 1) = decide (n % 2 = 1) := by
     rw [Bool.eq_iff_iff, beq_iff_eq, decide_eq_true_eq]; omega
    rw [← e9] at F4
    clear e9
    go_wp2_with fail
    refine F4.out.mono ?_; rintro e w5 ⟨rfl, hb5⟩
    have y5 := hid (bnext y4.out hb5); clear hb5
    go_wp2_with fail
    go_ret2
    exact ⟨rfl, y5.out⟩
  ·have e7 := hid (HOV.out (.inr l4))
   clear l4
   go_wp2_with fail
   go_ret2
   exact ⟨by rw [e7.out.1, e7.out.2]; rfl, y4.out⟩
 ·have e7 := hid (HOV.out (.inl l3))
  clear l3
  go_wp2_with fail
  refine (F2 _ _ D3.out (HL.out.call y3.out)).out.mono ?_; rintro e w4 ⟨hr4, hb4⟩
  have y4 := hid (bnext y3.out hb4)
  rcases hr4 with ⟨l4, v4, rfl, hv4⟩ | ⟨l4, rfl⟩
  ·obtain ⟨a4, c4, rfl, _⟩ := hv4.openI
   obtain ⟨k4, hk4⟩ : ∃ k, (limbs (p.den ^ n)).length = k := ⟨_, rfl⟩
   rw [hk4]
   clear hk4 hv4 l4 hb4
   go_wp2_with fail
   go_ret2
   exact ⟨by rw [e7.out.1, e7.out.2]; rfl, y4.out⟩
  ·clear l4 hb4
   go_wp2_with fail
   go_ret2
   exact ⟨by rw [e7.out.1, e7.out.2]; rfl, y4.out⟩
def pnB (n : Nat) (s : ByteArray) : ByteArray := op1B (fun q => q⁻¹ ^ n) s
def pnE (n : Nat) (s : ByteArray) : Int := op1E (fun q => q⁻¹ ^ n) s
theorem q_PowN (w : World) (s : ByteArray) (n : Nat) (z : Int) (hs : s.size ≤ 1000000) (hq : qE s = 0) (h0 : vQ s ≠ 0) (hn : n ≤ 1000000000) (hzn : z = -(n : Int)) (hL : Lay w) :
 Calls Tryz.prog 42 #[.string s, .int .i64 z] w fun e w' => e = .returned (.tuple #[.string (pnB n s), .int .i64 (pnE n s)]) ∧ Below w.heap.size w w' := by
 by_cases hn0 : n = 0
 ·subst hn0
  obtain rfl : z = ((0 : Nat) : Int) := by omega
  refine (q_Pow w s 0 hs (by omega) hL).mono ?_
  rintro e w' ⟨rfl, hb⟩
  refine ⟨?_, hb⟩
  unfold pwB pwE pnB pnE op1B op1E
  simp only [Rat.pow_zero]
 have HL := hid hL
 have b1 := hid ((Below.refl w.heap.size w).alloc (Nat.le_refl _) (.cells #[.int .i64 z] 3))
 have X1 := hid (Blk.new w #[.int .i64 z] 3)
 obtain ⟨g1, hg1⟩ : ∃ g, w.heap.size = g := ⟨_, rfl⟩
 obtain ⟨w1, hw1⟩ : ∃ w1, w.alloc (.cells #[.int .i64 z] 3) = w1 := ⟨_, rfl⟩
 have L1 := hid (HL.out.call b1.out)
 have b1' := b1
 rw [hw1] at b1 X1 L1
 rw [hg1] at X1
 have W1 := hid (q_with w1 s 81 #[.pointer (some ⟨g1, 0, none⟩)] (outB ((vQ s)⁻¹ ^ n)) (outE ((vQ s)⁻¹ ^ n)) hs L1.out (enters_of Tryz.func81 (by kernel_rfl) rfl)
  (fun W v hq hb hv hLW => q_PowN1 W v (vQ s) n g1 z hv (sml_vQ hq) h0 (by omega) hn hzn hLW ((X1.out.call hb).cell 0)))
 have e1 : wB (outB ((vQ s)⁻¹ ^ n)) s = pnB n s := rfl
 have e2 : wE (outE ((vQ s)⁻¹ ^ n)) s = pnE n s := rfl
 rw [e1, e2] at W1
 obtain ⟨B, hB⟩ : ∃ B, pnB n s = B := ⟨_, rfl⟩
 obtain ⟨E, hE⟩ : ∃ E, pnE n s = E := ⟨_, rfl⟩
 rw [hB, hE] at W1 ⊢
 have HW := hid hw1; have HG := hid hg1
 clear hB hE hs hL hn e1 e2 hw1 hg1 b1' hq h0 hn0 hzn
 go_enter Tryz.func42, Tryz.ntmps42
 go_wp2_with fail
 have hw1 := HW.out; have hg1 := HG.out
 rw [hw1, hg1]
 refine W1.out.mono ?_; rintro e w2 ⟨rfl, hb2⟩
 have y2 := hid (bnext b1.out hb2)
 clear hb2 hw1 hg1
 go_wp2_with fail
 go_ret2
 exact ⟨rfl, y2.out⟩
theorem na_Factor (w : World) (a : ByteArray) (reach : Int) (ha : a.size ≤ 100000) (hL : Lay w) :
 Calls Tryz.prog 15 #[.string a, .int .i64 reach] w fun e w' => e = .returned (.tuple #[.string (ffB a reach true), .int .i64 (ffE a reach true)]) ∧ Below w.heap.size w w' := by
 have HR := hid (na_ratio w a ha hL)
 unfold ffB ffE
 by_cases h0 : ffX a reach = 0
 ·rw [if_neg (by rw [h0]; simp), if_neg (by rw [h0]; simp)]
  have h0' := h0
  unfold ffX at h0'
  split at h0'
  ·rename_i h1; exact absurd h0' h1
  rename_i h1
  have h1 : ivrE a = 0 := Classical.byContradiction h1
  split at h0'
  ·cases h0'
  rename_i h2
  obtain ⟨g1, g2⟩ := ivrE_ok h1
  rw [g1] at HR
  obtain ⟨hq, -⟩ := iv_pos h1
  have hne := iv_ne h1
  obtain ⟨r, rfl⟩ : ∃ r : Nat, reach = (r : Nat) := ⟨reach.toNat, by omega⟩
  have HP := fun V hV => hid (q_PowN V a (ffM (r : Nat) true) (-((ffM (r : Nat) true : Nat) : Int)) (by omega) hq hne (by unfold ffM; split <;> simp <;> omega) rfl hV)
  have e1 : pnB (ffM (r : Nat) true) a = pngB (ffM (r : Nat) true) a := rfl
  have e2 : pnE (ffM (r : Nat) true) a = pngE (ffM (r : Nat) true) a := rfl
  rw [e1, e2] at HP
  have hM : ffM (r : Nat) true = r := by unfold ffM; rw [if_pos rfl, Int.toNat_natCast]
  obtain ⟨B, hB⟩ : ∃ s, pngB (ffM (r : Nat) true) a = s := ⟨_, rfl⟩
  obtain ⟨E, hE⟩ : ∃ s, pngE (ffM (r : Nat) true) a = s := ⟨_, rfl⟩
  rw [hB, hE] at HP ⊢
  rw [hM] at HP
  have t0 : (a.toList == [48]) = false := ne_lit g2
  have HL := hid hL
  have hneg : IntKind.i64.wrap (-(r : Int)) = -(r : Int) := by rw [IntWalk.i64_in _ ⟨by omega, by omega⟩]
  obtain ⟨R, hR⟩ : ∃ R : Int, ((r : Nat) : Int) = R := ⟨_, rfl⟩
  rw [hR] at HP hneg h2 ⊢
  have t1 : decide (R < 0) = false := decide_eq_false (by omega)
  have t2 : decide (10000 < R) = false := decide_eq_false (by omega)
  clear ha hL h0 h0' h1 h2 g1 g2 hq hne e1 e2 hM hB hE hR
  go_enter Tryz.func15, Tryz.ntmps15
  go_wp2_with fail
  refine HR.out.mono ?_; rintro e w1 ⟨rfl, hb1⟩
  have y1 := hid hb1; clear hb1
  go_wp2_with fail
  refine (HP _ (HL.out.call y1.out)).out.mono ?_; rintro e w2 ⟨rfl, hb2⟩
  have y2 := hid (bnext y1.out hb2); clear hb2
  go_wp2_with fail
  go_ret2
  exact ⟨rfl, y2.out⟩
 ·rw [if_pos h0, if_pos h0]
  unfold ffX at h0 ⊢
  by_cases hiv : ivrE a = 0
  ·rw [if_neg (by rw [hiv]; simp)] at h0 ⊢
   obtain ⟨g1, g2⟩ := ivrE_ok hiv
   rw [g1] at HR
   have ta : (a.toList == [48]) = false := ne_lit g2
   by_cases c1 : reach < 0 ∨ 10000 < reach
   ·rw [if_pos c1]
    obtain ⟨p1, h1⟩ : ∃ p, decide (reach < 0) = p := ⟨_, rfl⟩
    obtain ⟨p2, h2⟩ : ∃ p, decide (10000 < reach) = p := ⟨_, rfl⟩
    have hpq : (p1 || p2) = true := by rw [← h1, ← h2]; simpa using c1
    clear h0 c1 ha hL g1 g2 hiv
    cases p1
    case true =>
     clear hpq h2
     go_enter Tryz.func15, Tryz.ntmps15
     go_wp2_with fail
     refine HR.out.mono ?_; rintro e w0 ⟨rfl, hb0⟩
     go_wp2_with fail
     go_ret2
     exact ⟨rfl, hb0⟩
    obtain rfl : p2 = true := by simpa using hpq
    clear hpq
    go_enter Tryz.func15, Tryz.ntmps15
    go_wp2_with fail
    refine HR.out.mono ?_; rintro e w0 ⟨rfl, hb0⟩
    go_wp2_with fail
    go_ret2
    exact ⟨rfl, hb0⟩
   ·rw [if_neg c1] at h0
    exact absurd rfl h0
  ·rw [if_pos hiv]
   unfold ivrE at hiv ⊢
   obtain ⟨z, hz⟩ : ∃ z, gPE a = z := ⟨_, rfl⟩
   rw [hz] at HR hiv ⊢
   by_cases c0 : z = 0
   case neg =>
    rw [if_pos c0]
    have t0 : (z == 0) = false := by rw [beq_eq_false_iff_ne]; exact c0
    clear hz h0 c0 ha hL hiv
    go_enter Tryz.func15, Tryz.ntmps15
    go_wp2_with fail
    refine HR.out.mono ?_; rintro e w0 ⟨rfl, hb0⟩
    go_wp2_with fail
    go_ret2
    exact ⟨rfl, hb0⟩
   subst c0
   rw [if_neg (by simp)] at hiv ⊢
   by_cases ca : a = ⟨#[48]⟩
   ·subst ca
    rw [if_pos rfl]
    clear hz h0 ha hL hiv
    go_enter Tryz.func15, Tryz.ntmps15
    go_wp2_with fail
    refine HR.out.mono ?_; rintro e w0 ⟨rfl, hb0⟩
    go_wp2_with fail
    go_ret2
    exact ⟨rfl, hb0⟩
   ·rw [if_neg ca] at hiv
    exact absurd rfl hiv
end Go.Proofs.YtgphopkifomffaaGreatDoor
namespace Go.Proofs.YtgphopkifomffaaGreatDoor
open Go.RowKit
open Go.Lib (decDigits nDigits)
def h12 : ByteArray := ⟨#[49, 47, 50]⟩
def x11 : ByteArray := ⟨#[49, 49]⟩
theorem nn_l : nzO true h12 [5, 7] [x11, ⟨#[48, 48, 49, 49]⟩] = some [5, 9] ∧ naE [5, 7] h12 [x11, ⟨#[48, 48, 49, 49]⟩] = 0 := by decide +kernel
def nnD : List (ByteArray × ByteArray) := [(⟨#[52]⟩, ⟨#[49, 47, 56]⟩), (⟨#[53]⟩, ⟨#[49, 47, 52]⟩), (⟨#[54]⟩, ⟨#[49, 47, 56]⟩), (⟨#[108, 97, 116, 101]⟩, ⟨#[49, 47, 50]⟩)]
theorem nn_d : nlE [5] h12 3 = 0 ∧ nlR [5] h12 3 = nnD := by
 have h : nlE [5] h12 3 = 0 := by decide +kernel
 refine ⟨h, ?_⟩
 rw [nlR_ok h]
 have e : nyP (nlG h12 3) (chA (nlG h12 3) (3 : Int).toNat) (3 : Int).toNat [5] = nnD := by decide +kernel
 rw [e]
 exact List.mergeSort_of_pairwise (by decide +kernel)
open Go.Shelf
theorem k_PickU (x : Int) (n : Nat) (h0 : 0 < n) (hn : n ≤ 1000000) (h1 : -9223372036854775808 ≤ x) (h2 : x ≤ 9223372036854775807) :
 ∃ i : Nat, i < n ∧ ∀ w, Calls Tryz.prog 14 #[.int .i64 x, .int .i64 (n : Nat)] w fun e w' => e = .returned (.int .i64 (i : Nat)) ∧ w = w' := by
 have r1 := Int.tmod_lt_of_pos x (show (0 : Int) < n by omega)
 have r2 := Int.lt_tmod_of_pos x (show (0 : Int) < n by omega)
 obtain ⟨r, hr⟩ : ∃ r, x.tmod (n : Int) = r := ⟨_, rfl⟩
 rw [hr] at r1 r2
 have e0 : IntKind.i64.wrap r = r := by rw [IntWalk.i64_in _ ⟨by omega, by omega⟩]
 have hz : ((n : Int) == 0) = false := by rw [beq_eq_false_iff_ne]; omega
 by_cases hneg : r < 0
 ·have q0 : decide (r < 0) = true := by simp; omega
  obtain ⟨i, hi⟩ : ∃ i : Nat, r + (n : Int) = i := ⟨(r + n).toNat, by omega⟩
  have e1 : IntKind.i64.wrap (r + (n : Int)) = r + (n : Int) := by rw [IntWalk.i64_in _ ⟨by omega, by omega⟩]
  refine ⟨i, by omega, fun w => ?_⟩
  rw [← hi]
  clear hi hneg
  go_enter Tryz.func14, Tryz.ntmps14
  go_wp2_with fail
  go_ret
  exact ⟨rfl, rfl⟩
 ·have q0 : decide (r < 0) = false := by simp; omega
  obtain ⟨i, hi⟩ : ∃ i : Nat, r = i := ⟨r.toNat, by omega⟩
  refine ⟨i, by omega, fun w => ?_⟩
  rw [← hi]
  clear hi hneg
  go_enter Tryz.func14, Tryz.ntmps14
  go_wp2_with fail
  go_ret
  exact ⟨rfl, rfl⟩
theorem k_Pick (w : World) (x : Int) (n : Nat) (h0 : 0 < n) (hn : n ≤ 1000000) (h1 : -9223372036854775808 ≤ x) (h2 : x ≤ 9223372036854775807) :
 ∃ i : Nat, i < n ∧ Calls Tryz.prog 14 #[.int .i64 x, .int .i64 (n : Nat)] w fun e w' => e = .returned (.int .i64 (i : Nat)) ∧ w = w' := by
 obtain ⟨i, h3, h4⟩ := k_PickU x n h0 hn h1 h2
 exact ⟨i, h3, h4 w⟩
end Go.Proofs.YtgphopkifomffaaGreatDoor
namespace Go.Proofs.YtgphopkifomffaaGreatDoor
open Go.RowKit
open Go.Shelf
theorem mrow_lit (w : World) (L : List (ByteArray × ByteArray)) (n : Nat) (hn : L.length = n) (hL : n ≤ 1000) : MRow (w.alloc (.cells (massC L).toArray 40)) (.slice (some ⟨w.heap.size, 0, none⟩) n n) L := by
 subst hn
 refine ⟨some ⟨w.heap.size, 0, none⟩, L.length, rfl, Nat.le_refl _, by omega, fun i x h => ⟨w.heap.size, 0, rfl, by simp, ?_, ?_⟩⟩
 ·rw [Nat.zero_add, (Blk.new w _ _).cell, List.getElem?_toArray]; exact (massC_get h).1
 ·rw [Nat.zero_add, (Blk.new w _ _).cell, List.getElem?_toArray]; exact (massC_get h).2
theorem rowZ_lit (w : World) (L : List Int) (n : Nat) (hn : L.length = n) (hL : n ≤ 1000) : Row (w.alloc (.cells (zs L).toArray 3)) (.slice (some ⟨w.heap.size, 0, none⟩) n n) (zs L) :=
 Row.of_blk (Blk.new w _ _) (by rw [zs_length]; exact hn) (by unfold maxLen; omega) (fun i x h => by rw [List.getElem?_toArray]; exact h) (Nat.le_refl _) (by unfold maxLen; omega)
open Go.Lib (decDigits nDigits)
theorem k_SameI (w : World) (v u : Value) (L M : List Int) (hv : Row w v (zs L)) (hu : Row w u (zs M)) :
 Calls Tryz.prog 23 #[v, u] w fun e w' => e = .returned (.bool (decide (L = M))) ∧ Below w.heap.size w w' := by
 obtain ⟨a, c, rfl, h1, h2, h3⟩ := hv.openZ
 obtain ⟨a', c', rfl, h1', h2', h3'⟩ := hu.openZ
 obtain ⟨n, hn⟩ : ∃ n, L.length = n := ⟨_, rfl⟩
 obtain ⟨m, hm⟩ : ∃ n, M.length = n := ⟨_, rfl⟩
 rw [hn] at h1 ⊢
 rw [hm] at h1' ⊢
 have H3 := hid h3; have H3' := hid h3'; have HN := hid hn; have HM := hid hm
 clear hv hu h3 h3'
 by_cases hnm : n = m
 ·subst hnm
  have q0 : ((n : Int) != (n : Int)) = false := by simp
  clear hn hm
  go_enter Tryz.func23, Tryz.ntmps23
  go_wp2_with fail
  go_loopw [5] (fun ii wr => ∃ i : Nat, ii = .int .i64 (i : Nat) ∧ i ≤ n ∧ Hid (∀ j, j < i → L[j]? = M[j]?) ∧ Hid (Below w.heap.size w wr)) (fun ii wr => n - (intOf ii).toNat)
  case atStart => exact ⟨0, rfl, Nat.zero_le _, fun j hj => absurd hj (by omega), Below.refl _ _⟩
  case round =>
   obtain ⟨i, rfl, hi, hI, hB⟩ := hrel
   by_cases hlt : i < n
   ·obtain ⟨x, hx⟩ : ∃ x, L[i]? = some x := ⟨_, List.getElem?_eq_getElem (by rw [HN.out]; exact hlt)⟩
    obtain ⟨y, hy⟩ : ∃ x, M[i]? = some x := ⟨_, List.getElem?_eq_getElem (by rw [HM.out]; exact hlt)⟩
    obtain ⟨g, o, rfl, hg, k1⟩ := H3.out i x hx
    obtain ⟨g', o', rfl, hg', k1'⟩ := H3'.out i y hy
    have HX := hid hx; have HY := hid hy
    have m1 := (hB.out.cell (p := ⟨g, o + i, none⟩) hg).trans k1
    have m3 := (hB.out.cell (p := ⟨g', o' + i, none⟩) hg').trans k1'
    have b1 : (0 : Int) ≤ (i : Int) := by omega
    have b2 : (i : Int) < (n : Int) := by omega
    have wi : IntKind.i64.wrap ((i : Int) + 1) = (i : Int) + 1 := by rw [IntWalk.i64_in _ ⟨by omega, by omega⟩]
    clear k1 k1' hx hy hg hg'
    by_cases he1 : x = y
    ·subst he1
     have n1 : (x != x) = false := by simp
     go_wp2_with fail
     refine held_plain [0, 1, 2, 3, 4, 5, 6, 7, 8] 0 (fun w' => w'.cell? ⟨g, o + i, none⟩ = some (.int .i64 x) ∧ w'.cell? ⟨g', o' + i, none⟩ = some (.int .i64 x)) (by kernel_rfl) (by kernel_rfl) (by kernel_rfl) (by kernel_rfl) ⟨m1, m3⟩ ?_
     iterate 9
      refine ⟨_, rfl, ?_⟩
      apply Exists.intro
      refine ⟨.inl ⟨by rfl, ?_⟩, ?_⟩
      ·(intro W' hW'; obtain ⟨q1, q2⟩ := hW'; go_simp; try (with_reducible rfl))
      (dsimp only [Act.put]; try simp only [List.setIfInBounds_toArray, List.set_cons_zero, List.set_cons_succ])
     refine wpAnyH_done (by kernel_rfl) ?_ _
     simp only [Only]
     go_wp2_with fail
     go_roundw
     case rel => exact ⟨i + 1, rfl, by omega, fun j hj => by
      rcases Nat.lt_or_ge j i with h | h
      ·exact hI.out j h
      ·obtain rfl : j = i := by omega
       rw [HX.out, HY.out], hB.out.drew⟩
     case measure => simp [intOf] <;> omega
    ·have n1 : (x != y) = true := by simpa using he1
     have hne : decide (L = M) = false := by
      rw [decide_eq_false_iff_not]; rintro rfl
      have := HX.out.symm.trans HY.out
      simp only [Option.some.injEq] at this
      exact he1 this
     have HNE := hid hne
     clear hne he1
     go_wp2_with fail
     refine held_plain [0, 1, 2, 3, 4, 5, 6, 7, 8] 0 (fun w' => w'.cell? ⟨g, o + i, none⟩ = some (.int .i64 x) ∧ w'.cell? ⟨g', o' + i, none⟩ = some (.int .i64 y)) (by kernel_rfl) (by kernel_rfl) (by kernel_rfl) (by kernel_rfl) ⟨m1, m3⟩ ?_
     iterate 9
      refine ⟨_, rfl, ?_⟩
      apply Exists.intro
      refine ⟨.inl ⟨by rfl, ?_⟩, ?_⟩
      ·(intro W' hW'; obtain ⟨q1, q2⟩ := hW'; go_simp; try (with_reducible rfl))
      (dsimp only [Act.put]; try simp only [List.setIfInBounds_toArray, List.set_cons_zero, List.set_cons_succ])
     refine wpAnyH_done (by kernel_rfl) ?_ _
     simp only [Only]
     go_wp2_with fail
     go_ret
     exact ⟨by rw [HNE.out]; rfl, hB.out.drew⟩
   ·obtain rfl : i = n := by omega
    have hE : L = M := by
     apply List.ext_getElem?
     intro j
     by_cases hj : j < i
     ·exact hI.out j hj
     ·rw [List.getElem?_eq_none (by rw [HN.out]; omega), List.getElem?_eq_none (by rw [HM.out]; omega)]
    have HE := hid hE
    have q1 : decide ((i : Int) < (i : Int)) = false := by simp
    clear hE
    go_wp2_with fail
    go_ret
    exact ⟨by rw [decide_eq_true HE.out]; rfl, hB.out⟩
 ·have hE : decide (L = M) = false := by rw [decide_eq_false_iff_not]; rintro rfl; exact hnm (hn.symm.trans hm)
  have HE := hid hE
  have q0 : ((n : Int) != (m : Int)) = true := by simp; omega
  clear hn hm hE
  go_enter Tryz.func23, Tryz.ntmps23
  go_wp2_with fail
  go_ret
  exact ⟨by rw [HE.out]; rfl, Below.refl _ _⟩
theorem rowZ_isS (w : World) (L : List Int) (cs : Array Value) (n b : Nat) (hc : cs = (zs L).toArray) (hb : w.heap.size = b) (hn : L.length = n) (hL : n ≤ 1000) : Row (w.alloc (.cells cs 3)) (.slice (some ⟨b, 0, none⟩) n n) (zs L) := by
 subst hc hb
 exact rowZ_lit w L n hn hL
theorem rowB_isS (w : World) (L : List ByteArray) (cs : Array Value) (n b : Nat) (hc : cs = (strs L).toArray) (hb : w.heap.size = b) (hn : L.length = n) (hL : n ≤ 1000) : Row (w.alloc (.cells cs 34)) (.slice (some ⟨b, 0, none⟩) n n) (strs L) := by
 subst hc hb
 exact Row.of_blk (Blk.new w _ _) (by rw [strs_length]; exact hn) (by unfold maxLen; omega) (fun i x h => by rw [List.getElem?_toArray]; exact h) (Nat.le_refl _) (by unfold maxLen; omega)
theorem w_lives21 (w : World) (hL : LayB w) :
 Calls Tryz.prog 7 #[] w fun e w' => e = .returned (.bool true) ∧ Below w.heap.size w w' := by
 have HL := hid hL
 have PP := fun V v u hv hu hV => hid (na_Add V v u [5, 7] h12 [x11, ⟨#[48, 48, 49, 49]⟩] hv hu (by decide) (by decide) hV)
 have PL := fun V v hv hV => hid (na_Law V v [5] h12 3 hv (by decide) (by decide +kernel) hV)
 rw [naO_ok nn_l.2 nn_l.1, nn_l.2] at PP
 simp only [Option.isSome_some, Option.getD_some] at PP
 rw [nn_d.1, nn_d.2] at PL
 unfold h12 x11 at PP
 unfold h12 nnD at PL
 have PI := fun V u v hu hv => hid (k_SameI V u v [5, 9] [5, 9] hu hv)
 have PS := fun V u v hu hv => hid (k_SameM V u v nnD nnD hu hv)
 rw [decide_eq_true rfl] at PI PS
 unfold nnD at PS
 clear hL
 have A1 := (Below.refl w.heap.size w).alloc (Nat.le_refl _) (.cells #[.int .i64 5, .int .i64 7] 3)
 have A2 := hid (A1.alloc A1.size (.cells #[.string ⟨#[49, 49]⟩, .string ⟨#[48, 48, 49, 49]⟩] 34))
 have R1 := hid ((rowZ_isS w [5, 7] _ 2 w.heap.size rfl rfl rfl (by omega)).call ((Below.refl _ _).alloc (Nat.le_refl _) (.cells #[.string ⟨#[49, 49]⟩, .string ⟨#[48, 48, 49, 49]⟩] 34)))
 have R2 := hid (rowB_isS (w.alloc (.cells #[.int .i64 5, .int .i64 7] 3)) [⟨#[49, 49]⟩, ⟨#[48, 48, 49, 49]⟩] _ 2 (w.heap.size + 1) rfl (by simp) rfl (by omega))
 clear A1
 go_enter Tryz.func7, Tryz.ntmps7
 go_wp2_with fail
 refine (PP _ _ _ R1.out R2.out (HL.out.call A2.out)).out.mono ?_; rintro e w1 ⟨⟨u1, rfl, hu1⟩, hb1⟩
 have y1 := hid (bnext A2.out hb1)
 have U1 := hid hu1
 obtain ⟨a1, k1, rfl, -, -, -⟩ := hu1.openZ
 clear hb1 hu1
 go_wp2_with fail
 have A3 := hid ((Below.refl w1.heap.size w1).alloc (Nat.le_refl _) (.cells #[.int .i64 5] 3))
 have R3 := hid (rowZ_isS w1 [5] _ 1 w1.heap.size rfl rfl rfl (by omega))
 refine (PL _ _ R3.out (HL.out.call (bnext y1.out A3.out))).out.mono ?_; rintro e w2 ⟨⟨u, rfl, hu⟩, hb2⟩
 have b2 := hid (bnext A3.out hb2)
 have y2 := hid (bnext y1.out b2.out)
 have U2 := hid hu
 obtain ⟨a2, k2, rfl, -, -, -⟩ := hu.ex
 clear hb2 hu
 have A4 := hid ((Below.refl w2.heap.size w2).alloc (Nat.le_refl _) (.cells #[.int .i64 5, .int .i64 9] 3))
 have R4 := hid (rowZ_isS w2 [5, 9] _ 2 w2.heap.size rfl rfl rfl (by omega))
 go_wp2_with fail
 refine (PI _ _ _ ((U1.out.call b2.out).call A4.out) R4.out).out.mono ?_; rintro e w3 ⟨rfl, hb3⟩
 have b3 := hid (bnext A4.out hb3)
 have y3 := hid (bnext y2.out b3.out)
 clear hb3
 have A5 := hid ((Below.refl w3.heap.size w3).alloc (Nat.le_refl _) (.cells #[.string ⟨#[52]⟩, .string ⟨#[49, 47, 56]⟩, .string ⟨#[53]⟩, .string ⟨#[49, 47, 52]⟩, .string ⟨#[54]⟩, .string ⟨#[49, 47, 56]⟩, .string ⟨#[108, 97, 116, 101]⟩, .string ⟨#[49, 47, 50]⟩] 40))
 have R5 := hid (mrow_lit w3 [(⟨#[52]⟩, ⟨#[49, 47, 56]⟩), (⟨#[53]⟩, ⟨#[49, 47, 52]⟩), (⟨#[54]⟩, ⟨#[49, 47, 56]⟩), (⟨#[108, 97, 116, 101]⟩, ⟨#[49, 47, 50]⟩)] 4 rfl (by omega))
 go_wp2_with fail
 refine (PS _ _ _ ((U2.out.call b3.out).call A5.out) R5.out).out.mono ?_; rintro e w4 ⟨rfl, hb4⟩
 go_wp2_with fail
 go_ret
 exact ⟨rfl, bnext y3.out (bnext A5.out hb4)⟩
end Go.Proofs.YtgphopkifomffaaGreatDoor
namespace Go.Proofs.YtgphopkifomffaaGreatDoor
open Go.RowKit
open Go.Lib (decDigits nDigits)
structure CutR (s W B D : ByteArray) (S M I fb : Bool) (k : Nat) : Prop where
 sl : ∀ w, Calls Tryz.prog 130 #[.string s] w fun e w' => e = .returned (.int .i64 k) ∧ w = w'
 kle : k ≤ s.size
 cutW : s.extract 0 k = W
 cutB : S = true → s.extract (k + 1) s.size = B
 has : S = decide (k < s.size)
 int : ∀ w, Calls Tryz.prog 124 #[.string W] w fun e w' => e = .returned (.tuple #[.bool M, .string D, .bool I]) ∧ w = w'
 form : ∀ w, Calls Tryz.prog 131 #[.string B] w fun e w' => e = .returned (.bool fb) ∧ w = w'
theorem cutR_of (s : ByteArray) (hs : s.size ≤ 1000000) : CutR s (cW s) (cB s) (iD (cW s)) (cS s) (iM (cW s)) (iB (cW s)) (fB (cB s)) (cW s).size := by
 have key : ∀ k, isSlash s.data.toList k → k = (cW s).size := by
  intro k hk
  obtain ⟨h1, h2, -⟩ := slash_cut hk
  rw [h2]
  simp
  omega
 have ex : ∃ k, isSlash s.data.toList k := by
  rcases sl_cases s.data.toList with hn | ⟨A, B, hA, e⟩
  ·exact ⟨s.data.toList.length, Nat.le_refl _, fun j b _ hb => hn b (List.mem_of_getElem? hb), fun h => absurd h (Nat.lt_irrefl _)⟩
  ·refine ⟨A.length, by rw [e]; simp, fun j b hj hb => ?_, fun _ => by rw [e]; simp⟩
   rw [e, List.getElem?_append_left hj] at hb
   exact hA b (List.mem_of_getElem? hb)
 obtain ⟨k, hk⟩ := ex
 obtain ⟨h1, h2, h3, h4⟩ := slash_cut hk
 have hk' := key k hk
 subst hk'
 exact {
  sl := fun w => (r2_slash w s (by omega)).mono (by
   rintro e w' ⟨⟨j, rfl, hj⟩, rfl⟩
   rw [key j hj]
   exact ⟨rfl, rfl⟩)
  kle := h1
  cutW := h2.symm
  cutB := fun h => (h4 (by rw [h3] at h; simpa using h)).symm
  has := h3
  int := fun w => r2_integer w (cW s) (by have := cW_size s; omega)
  form := fun w => r2_digits w (cB s) (by have := cB_size s; omega) }
def RetR (x : Int) (m : Bool) (n d : Nat) (e : Ending) (w' : World) : Prop := ∃ v, e = .returned (.tuple #[v, .int .i64 x]) ∧ (x = 0 → ∃ N D, v = .agg #[.bool m, N, D] ∧ IsN .i64 w' N n ∧ IsN .i64 w' D d) ∧ (x ≠ 0 → v = .agg #[.bool false, .slice none 0 0, .slice none 0 0])
theorem RetR.err {x : Int} {m : Bool} {n d : Nat} {w' : World} (h : x ≠ 0) : RetR x m n d (.returned (.tuple #[.agg #[.bool false, .slice none 0 0, .slice none 0 0], .int .i64 x])) w' := ⟨_, rfl, fun e => absurd e h, fun _ => rfl⟩
theorem rd_bad (w : World) (s W B D : ByteArray) (S M I fb : Bool) (k : Nat) (hs : s.size ≤ 1000000) (HC : CutR s W B D S M I fb k)
 (h : (I && (!S || (decide (D ≠ ⟨#[48]⟩) && fb && decide (B ≠ ⟨#[48]⟩) && decide (B ≠ ⟨#[49]⟩)))) = false) :
 Calls Tryz.prog 85 #[.string s] w fun e w' => e = .returned (.tuple #[.agg #[.bool false, .slice none 0 0, .slice none 0 0], .int .i64 3]) ∧ Below w.heap.size w w' := by
 have key : (I = false) ∨ (I = true ∧ S = true ∧ (D = ⟨#[48]⟩ ∨ (¬ D = ⟨#[48]⟩ ∧ (fb = false ∨ (fb = true ∧ (B = ⟨#[48]⟩ ∨ (¬ B = ⟨#[48]⟩ ∧ B = ⟨#[49]⟩))))))) := by
  by_cases h1 : D = ⟨#[48]⟩ <;> by_cases h2 : B = ⟨#[48]⟩ <;> by_cases h3 : B = ⟨#[49]⟩ <;> cases I <;> cases S <;> cases fb <;> simp [h1, h2, h3] at h ⊢
 have HK := hid HC
 have kle := HC.kle
 have hlt := HC.has
 have cw := hid HC.cutW
 have cb := hid HC.cutB
 clear HC h
 have t0 := hid (Blk.new w #[.bool false, .slice none 0 0, .slice none 0 0] 83)
 have t1 := hid ((Below.refl w.heap.size w).alloc (Nat.le_refl _) (.cells #[.bool false, .slice none 0 0, .slice none 0 0] 83))
 have d0 := t0.out.cell 0
 have d1 := t0.out.cell 1
 have d2 := t0.out.cell 2
 have e0 := t0.out.free 0
 have e1 := t0.out.free 1
 have e2 := t0.out.free 2
 simp at d0 d1 d2
 have ht : ∀ {b : Bool}, b = decide (k < s.size) → decide (k < s.size) = b := fun h => h.symm
 have wk : IntKind.i64.wrap ((k : Int) + 1) = (k : Int) + 1 := by rw [IntWalk.i64_in _ ⟨by omega, by omega⟩]
 have kle2 : S = true → k + 1 ≤ s.size := fun h => by rw [h] at hlt; have := of_decide_eq_true hlt.symm; omega
 rcases key with rfl | ⟨rfl, rfl, rfl | ⟨h1, rfl | ⟨rfl, rfl | ⟨h2, rfl⟩⟩⟩⟩
 ·cases S
  ·have q0 := ht hlt
   clear hlt ht kle2
   go_enter Tryz.func85, Tryz.ntmps85
   go_wp2_with (first
    | (go_at_call 130; refine (HK.out.sl _).mono ?_; rintro e w1 ⟨rfl, rfl⟩)
    | (go_at_call 124; rw [cw.out]; refine (HK.out.int _).mono ?_; rintro e w2 ⟨rfl, rfl⟩)
    | (go_at_call 131; (first | rw [cb.out trivial] | rw [cb.out rfl]); refine (HK.out.form _).mono ?_; rintro e w3 ⟨rfl, rfl⟩)
    | fail)
   obtain ⟨s1, s2⟩ := set3 t0.out false none none 0 0 0 0
   have f0 := s2.cell 0
   have f1 := s2.cell 1
   have f2 := s2.cell 2
   simp at f0 f1 f2
   refine bodyPost_ret (v := .tuple #[.agg #[.bool false, .slice none 0 0, .slice none 0 0], .int .i64 3]) (by simp [results, Tryz.results85, go_sem, f0, f1, f2]) rfl ⟨rfl, ?_⟩
   first | exact t1.out | exact ((t1.out.setCell (Nat.le_refl _) _).setCell (Nat.le_refl _) _).setCell (Nat.le_refl _) _
  ·have q0 := ht hlt
   have kle3 := kle2 rfl
   clear hlt ht kle2
   go_enter Tryz.func85, Tryz.ntmps85
   go_wp2_with (first
    | (go_at_call 130; refine (HK.out.sl _).mono ?_; rintro e w1 ⟨rfl, rfl⟩)
    | (go_at_call 124; rw [cw.out]; refine (HK.out.int _).mono ?_; rintro e w2 ⟨rfl, rfl⟩)
    | (go_at_call 131; (first | rw [cb.out trivial] | rw [cb.out rfl]); refine (HK.out.form _).mono ?_; rintro e w3 ⟨rfl, rfl⟩)
    | fail)
   obtain ⟨s1, s2⟩ := set3 t0.out false none none 0 0 0 0
   have f0 := s2.cell 0
   have f1 := s2.cell 1
   have f2 := s2.cell 2
   simp at f0 f1 f2
   refine bodyPost_ret (v := .tuple #[.agg #[.bool false, .slice none 0 0, .slice none 0 0], .int .i64 3]) (by simp [results, Tryz.results85, go_sem, f0, f1, f2]) rfl ⟨rfl, ?_⟩
   first | exact t1.out | exact ((t1.out.setCell (Nat.le_refl _) _).setCell (Nat.le_refl _) _).setCell (Nat.le_refl _) _
 ·have q0 := ht hlt
  have kle3 := kle2 rfl
  clear hlt ht kle2
  go_enter Tryz.func85, Tryz.ntmps85
  go_wp2_with (first
   | (go_at_call 130; refine (HK.out.sl _).mono ?_; rintro e w1 ⟨rfl, rfl⟩)
   | (go_at_call 124; rw [cw.out]; refine (HK.out.int _).mono ?_; rintro e w2 ⟨rfl, rfl⟩)
   | (go_at_call 131; (first | rw [cb.out trivial] | rw [cb.out rfl]); refine (HK.out.form _).mono ?_; rintro e w3 ⟨rfl, rfl⟩)
   | fail)
  obtain ⟨s1, s2⟩ := set3 t0.out false none none 0 0 0 0
  have f0 := s2.cell 0
  have f1 := s2.cell 1
  have f2 := s2.cell 2
  simp at f0 f1 f2
  refine bodyPost_ret (v := .tuple #[.agg #[.bool false, .slice none 0 0, .slice none 0 0], .int .i64 3]) (by simp [results, Tryz.results85, go_sem, f0, f1, f2]) rfl ⟨rfl, ?_⟩
  first | exact t1.out | exact ((t1.out.setCell (Nat.le_refl _) _).setCell (Nat.le_refl _) _).setCell (Nat.le_refl _) _
 ·have q0 := ht hlt
  have kle3 := kle2 rfl
  have i1 := ne_lit (l := [48]) h1
  clear hlt ht kle2
  go_enter Tryz.func85, Tryz.ntmps85
  go_wp2_with (first
   | (go_at_call 130; refine (HK.out.sl _).mono ?_; rintro e w1 ⟨rfl, rfl⟩)
   | (go_at_call 124; rw [cw.out]; refine (HK.out.int _).mono ?_; rintro e w2 ⟨rfl, rfl⟩)
   | (go_at_call 131; (first | rw [cb.out trivial] | rw [cb.out rfl]); refine (HK.out.form _).mono ?_; rintro e w3 ⟨rfl, rfl⟩)
   | fail)
  obtain ⟨s1, s2⟩ := set3 t0.out false none none 0 0 0 0
  have f0 := s2.cell 0
  have f1 := s2.cell 1
  have f2 := s2.cell 2
  simp at f0 f1 f2
  refine bodyPost_ret (v := .tuple #[.agg #[.bool false, .slice none 0 0, .slice none 0 0], .int .i64 3]) (by simp [results, Tryz.results85, go_sem, f0, f1, f2]) rfl ⟨rfl, ?_⟩
  first | exact t1.out | exact ((t1.out.setCell (Nat.le_refl _) _).setCell (Nat.le_refl _) _).setCell (Nat.le_refl _) _
 ·have q0 := ht hlt
  have kle3 := kle2 rfl
  have i1 := ne_lit (l := [48]) h1
  clear hlt ht kle2
  go_enter Tryz.func85, Tryz.ntmps85
  go_wp2_with (first
   | (go_at_call 130; refine (HK.out.sl _).mono ?_; rintro e w1 ⟨rfl, rfl⟩)
   | (go_at_call 124; rw [cw.out]; refine (HK.out.int _).mono ?_; rintro e w2 ⟨rfl, rfl⟩)
   | (go_at_call 131; (first | rw [cb.out trivial] | rw [cb.out rfl]); refine (HK.out.form _).mono ?_; rintro e w3 ⟨rfl, rfl⟩)
   | fail)
  obtain ⟨s1, s2⟩ := set3 t0.out false none none 0 0 0 0
  have f0 := s2.cell 0
  have f1 := s2.cell 1
  have f2 := s2.cell 2
  simp at f0 f1 f2
  refine bodyPost_ret (v := .tuple #[.agg #[.bool false, .slice none 0 0, .slice none 0 0], .int .i64 3]) (by simp [results, Tryz.results85, go_sem, f0, f1, f2]) rfl ⟨rfl, ?_⟩
  first | exact t1.out | exact ((t1.out.setCell (Nat.le_refl _) _).setCell (Nat.le_refl _) _).setCell (Nat.le_refl _) _
 ·have q0 := ht hlt
  have kle3 := kle2 rfl
  have i1 := ne_lit (l := [48]) h1
  have i2 := ne_lit (l := [48]) h2
  clear hlt ht kle2
  go_enter Tryz.func85, Tryz.ntmps85
  go_wp2_with (first
   | (go_at_call 130; refine (HK.out.sl _).mono ?_; rintro e w1 ⟨rfl, rfl⟩)
   | (go_at_call 124; rw [cw.out]; refine (HK.out.int _).mono ?_; rintro e w2 ⟨rfl, rfl⟩)
   | (go_at_call 131; (first | rw [cb.out trivial] | rw [cb.out rfl]); refine (HK.out.form _).mono ?_; rintro e w3 ⟨rfl, rfl⟩)
   | fail)
  obtain ⟨s1, s2⟩ := set3 t0.out false none none 0 0 0 0
  have f0 := s2.cell 0
  have f1 := s2.cell 1
  have f2 := s2.cell 2
  simp at f0 f1 f2
  refine bodyPost_ret (v := .tuple #[.agg #[.bool false, .slice none 0 0, .slice none 0 0], .int .i64 3]) (by simp [results, Tryz.results85, go_sem, f0, f1, f2]) rfl ⟨rfl, ?_⟩
  first | exact t1.out | exact ((t1.out.setCell (Nat.le_refl _) _).setCell (Nat.le_refl _) _).setCell (Nat.le_refl _) _
theorem rd_long (w : World) (s W B D : ByteArray) (S M fb : Bool) (k : Nat) (hs : s.size ≤ 1000000) (HC : CutR s W B D S M true fb k)
 (h : S = false ∨ (S = true ∧ ¬ D = ⟨#[48]⟩ ∧ ¬ B = ⟨#[48]⟩ ∧ ¬ B = ⟨#[49]⟩ ∧ fb = true)) (hl : 4000 < D.size ∨ (¬ 4000 < D.size ∧ S = true ∧ 4000 < B.size)) :
 Calls Tryz.prog 85 #[.string s] w fun e w' => e = .returned (.tuple #[.agg #[.bool false, .slice none 0 0, .slice none 0 0], .int .i64 5]) ∧ Below w.heap.size w w' := by
 have HK := hid HC
 have kle := HC.kle
 have hlt := HC.has
 have cw := hid HC.cutW
 have cb := hid HC.cutB
 clear HC
 have t0 := hid (Blk.new w #[.bool false, .slice none 0 0, .slice none 0 0] 83)
 have t1 := hid ((Below.refl w.heap.size w).alloc (Nat.le_refl _) (.cells #[.bool false, .slice none 0 0, .slice none 0 0] 83))
 have wk : IntKind.i64.wrap ((k : Int) + 1) = (k : Int) + 1 := by rw [IntWalk.i64_in _ ⟨by omega, by omega⟩]
 have d0 := t0.out.cell 0
 have d1 := t0.out.cell 1
 have d2 := t0.out.cell 2
 have e0 := t0.out.free 0
 have e1 := t0.out.free 1
 have e2 := t0.out.free 2
 simp at d0 d1 d2
 have kle2 : S = true → k + 1 ≤ s.size := fun h => by rw [h] at hlt; have := of_decide_eq_true hlt.symm; omega
 have q0 := hlt.symm
 clear hlt
 rcases h with rfl | ⟨rfl, h1, h2, h3, rfl⟩
 ·have q1 : decide ((4000 : Int) < (D.size : Int)) = true := by
   rcases hl with hl | ⟨_, hl, _⟩
   ·simp; omega
   ·cases hl
  clear hl kle2
  go_enter Tryz.func85, Tryz.ntmps85
  go_wp2_with (first
   | (go_at_call 130; refine (HK.out.sl _).mono ?_; rintro e w1 ⟨rfl, rfl⟩)
   | (go_at_call 124; rw [cw.out]; refine (HK.out.int _).mono ?_; rintro e w2 ⟨rfl, rfl⟩)
   | (go_at_call 131; (first | rw [cb.out trivial] | rw [cb.out rfl]); refine (HK.out.form _).mono ?_; rintro e w3 ⟨rfl, rfl⟩)
   | fail)
  obtain ⟨s1, s2⟩ := set3 t0.out false none none 0 0 0 0
  have f0 := s2.cell 0
  have f1 := s2.cell 1
  have f2 := s2.cell 2
  simp at f0 f1 f2
  refine bodyPost_ret (v := .tuple #[.agg #[.bool false, .slice none 0 0, .slice none 0 0], .int .i64 5]) (by simp [results, Tryz.results85, go_sem, f0, f1, f2]) rfl ⟨rfl, ?_⟩
  first | exact t1.out | exact ((t1.out.setCell (Nat.le_refl _) _).setCell (Nat.le_refl _) _).setCell (Nat.le_refl _) _
 ·have kle3 := kle2 rfl
  have i1 := ne_lit (l := [48]) h1
  have i2 := ne_lit (l := [48]) h2
  have i3 := ne_lit (l := [49]) h3
  clear kle2
  rcases hl with hl | ⟨hl, -, hl2⟩
  ·have q1 : decide ((4000 : Int) < (D.size : Int)) = true := by simp; omega
   clear hl
   go_enter Tryz.func85, Tryz.ntmps85
   go_wp2_with (first
    | (go_at_call 130; refine (HK.out.sl _).mono ?_; rintro e w1 ⟨rfl, rfl⟩)
    | (go_at_call 124; rw [cw.out]; refine (HK.out.int _).mono ?_; rintro e w2 ⟨rfl, rfl⟩)
    | (go_at_call 131; (first | rw [cb.out trivial] | rw [cb.out rfl]); refine (HK.out.form _).mono ?_; rintro e w3 ⟨rfl, rfl⟩)
    | fail)
   obtain ⟨s1, s2⟩ := set3 t0.out false none none 0 0 0 0
   have f0 := s2.cell 0
   have f1 := s2.cell 1
   have f2 := s2.cell 2
   simp at f0 f1 f2
   refine bodyPost_ret (v := .tuple #[.agg #[.bool false, .slice none 0 0, .slice none 0 0], .int .i64 5]) (by simp [results, Tryz.results85, go_sem, f0, f1, f2]) rfl ⟨rfl, ?_⟩
   first | exact t1.out | exact ((t1.out.setCell (Nat.le_refl _) _).setCell (Nat.le_refl _) _).setCell (Nat.le_refl _) _
  ·have q1 : decide ((4000 : Int) < (D.size : Int)) = false := by simp; omega
   have q2 : decide ((4000 : Int) < (B.size : Int)) = true := by simp; omega
   clear hl hl2
   go_enter Tryz.func85, Tryz.ntmps85
   go_wp2_with (first
    | (go_at_call 130; refine (HK.out.sl _).mono ?_; rintro e w1 ⟨rfl, rfl⟩)
    | (go_at_call 124; rw [cw.out]; refine (HK.out.int _).mono ?_; rintro e w2 ⟨rfl, rfl⟩)
    | (go_at_call 131; (first | rw [cb.out trivial] | rw [cb.out rfl]); refine (HK.out.form _).mono ?_; rintro e w3 ⟨rfl, rfl⟩)
    | fail)
   obtain ⟨s1, s2⟩ := set3 t0.out false none none 0 0 0 0
   have f0 := s2.cell 0
   have f1 := s2.cell 1
   have f2 := s2.cell 2
   simp at f0 f1 f2
   refine bodyPost_ret (v := .tuple #[.agg #[.bool false, .slice none 0 0, .slice none 0 0], .int .i64 5]) (by simp [results, Tryz.results85, go_sem, f0, f1, f2]) rfl ⟨rfl, ?_⟩
   first | exact t1.out | exact ((t1.out.setCell (Nat.le_refl _) _).setCell (Nat.le_refl _) _).setCell (Nat.le_refl _) _
def RetRF (B : Nat) (x : Int) (m : Bool) (n d : Nat) (e : Ending) (w' : World) : Prop := ∃ v, e = .returned (.tuple #[v, .int .i64 x]) ∧ (x = 0 → ∃ N D, v = .agg #[.bool m, N, D] ∧ IsN .i64 w' N n ∧ IsN .i64 w' D d ∧ (∀ g, N.ownBlock = some g → B ≤ g) ∧ (∀ g, D.ownBlock = some g → B ≤ g)) ∧ (x ≠ 0 → v = .agg #[.bool false, .slice none 0 0, .slice none 0 0])
theorem RetRF.err {B : Nat} {x : Int} {m : Bool} {n d : Nat} {w' : World} (h : x ≠ 0) : RetRF B x m n d (.returned (.tuple #[.agg #[.bool false, .slice none 0 0, .slice none 0 0], .int .i64 x])) w' := ⟨_, rfl, fun e => absurd e h, fun _ => rfl⟩
theorem rd_fracF (w : World) (s W B D : ByteArray) (M : Bool) (k : Nat) (hs : s.size ≤ 1000000) (HC : CutR s W B D true M true true k)
 (h1 : ¬ D = ⟨#[48]⟩) (h2 : ¬ B = ⟨#[48]⟩) (h3 : ¬ B = ⟨#[49]⟩) (hl1 : ¬ 4000 < D.size) (hl2 : ¬ 4000 < B.size) (hd1 : allDig D.data.toList) (hd2 : allDig B.data.toList) :
 Calls Tryz.prog 85 #[.string s] w fun e w' => RetRF w.heap.size (if Nat.gcd (bN D) (bN B) = 1 then 0 else 3) M (bN D) (bN B) e w' ∧ Below w.heap.size w w' := by
 obtain ⟨xc, hxc⟩ : ∃ x : Int, (if Nat.gcd (bN D) (bN B) = 1 then 0 else 3) = x := ⟨_, rfl⟩
 rw [hxc]
 have HXC := hid hxc
 clear hxc
 have HK := hid HC
 have kle := HC.kle
 have hlt := HC.has
 have cw := hid HC.cutW
 have cb := hid HC.cutB
 clear HC
 have t0 := hid (Blk.new w #[.bool false, .slice none 0 0, .slice none 0 0] 83)
 have t1 := hid ((Below.refl w.heap.size w).alloc (Nat.le_refl _) (.cells #[.bool false, .slice none 0 0, .slice none 0 0] 83))
 have wk : IntKind.i64.wrap ((k : Int) + 1) = (k : Int) + 1 := by rw [IntWalk.i64_in _ ⟨by omega, by omega⟩]
 have kle3 : k + 1 ≤ s.size := by have := of_decide_eq_true hlt.symm; omega
 have q0 := hlt.symm
 clear hlt
 have i1 := ne_lit (l := [48]) h1
 have i2 := ne_lit (l := [48]) h2
 have i3 := ne_lit (l := [49]) h3
 have q1 : decide ((4000 : Int) < (D.size : Int)) = false := by simp; omega
 have q2 : decide ((4000 : Int) < (B.size : Int)) = false := by simp; omega
 have L1 := hid (bN_limbs hd1 hl1)
 have L2 := hid (bN_limbs hd2 hl2)
 have P1 := fun W => hid (r1_ReadF W D hd1 (by omega))
 have P2 := fun W => hid (r1_ReadF W B hd2 (by omega))
 clear hd1 hd2 h1 h2 h3 hl1 hl2
 go_enter Tryz.func85, Tryz.ntmps85
 go_wp2_with (first
  | (go_at_call 130; refine (HK.out.sl _).mono ?_; rintro e w1 ⟨rfl, rfl⟩)
  | (go_at_call 124; rw [cw.out]; refine (HK.out.int _).mono ?_; rintro e w2 ⟨rfl, rfl⟩)
  | (go_at_call 131; (first | rw [cb.out trivial] | rw [cb.out rfl]); refine (HK.out.form _).mono ?_; rintro e w3 ⟨rfl, rfl⟩)
  | fail)
 refine (P1 _).out.mono ?_; rintro e w4 ⟨⟨v4, rfl, hv4, hf4⟩, hb4⟩
 have F4 := hid (fun g hg => Nat.le_trans t1.out.size (hf4 g hg))
 have x4 := hid (t0.out.call hb4)
 have y4 := hid (bnext t1.out hb4)
 have N4 := hid hv4
 clear hb4 hv4 hf4
 obtain ⟨a4, c4, rfl, _⟩ := N4.out.openI
 obtain ⟨k1, hk1⟩ : ∃ k, (limbs (dv D.data.toList)).length = k := ⟨_, rfl⟩
 rw [hk1] at N4 F4 ⊢
 clear P1
 go_wp2_with fail
 refine (P2 _).out.mono ?_; rintro e w5 ⟨⟨v5, rfl, hv5, hf5⟩, hb5⟩
 have F5 := hid (fun g hg => Nat.le_trans y4.out.size (hf5 g hg))
 have x5 := hid (x4.out.call hb5)
 have y5 := hid (bnext y4.out hb5)
 have N5 := hid (N4.out.call hb5)
 have D5 := hid hv5
 clear hb5 hv5 hf5
 obtain ⟨a5, c5, rfl, _⟩ := D5.out.openI
 obtain ⟨k2, hk2⟩ : ∃ k, (limbs (dv B.data.toList)).length = k := ⟨_, rfl⟩
 rw [hk2] at D5 F5 ⊢
 clear P2
 go_wp2_with fail
 have z5 := hid (Blk.new w5 #[.bool M, .slice a4 k1 c4, .slice a5 k2 c5] 83)
 have b5 := hid ((Below.refl w5.heap.size w5).alloc (Nat.le_refl _) (.cells #[.bool M, .slice a4 k1 c4, .slice a5 k2 c5] 83))
 have g0 := z5.out.cell 0
 have g1 := z5.out.cell 1
 have g2 := z5.out.cell 2
 simp at g0 g1 g2
 go_wp2_with fail
 refine (r1_Common _ _ _ _ _ (N5.out.call b5.out) (D5.out.call b5.out) L1.out L2.out).mono ?_
 rintro e w6 ⟨⟨v6, rfl, hv6⟩, hb6⟩
 have z6 := hid (z5.out.call hb6)
 have x6 := hid ((x5.out.call b5.out).call hb6)
 have y6 := hid (bnext (bnext y5.out b5.out) hb6)
 have N6 := hid ((N5.out.call b5.out).call hb6)
 have D6 := hid ((D5.out.call b5.out).call hb6)
 have G6 := hid hv6
 clear hb6 hv6 g0 g1 g2
 go_wp2_with fail
 refine (r2_one _).mono ?_
 rintro e w7 ⟨⟨v7, rfl, hv7⟩, hb7⟩
 have z7 := hid (z6.out.call hb7)
 have x7 := hid (x6.out.call hb7)
 have y7 := hid (bnext y6.out hb7)
 have N7 := hid (N6.out.call hb7)
 have D7 := hid (D6.out.call hb7)
 have G7 := hid (G6.out.call hb7)
 have O7 := hid hv7
 clear hb7 hv7
 go_wp2_with fail
 refine (r1_Order _ _ _ _ _ G7.out O7.out).mono ?_
 rintro e w8 ⟨rfl, hb8⟩
 have z8 := hid (z7.out.call hb8)
 have x8 := hid (x7.out.call hb8)
 have y8 := hid (bnext y7.out hb8)
 have N8 := hid (N7.out.call hb8)
 have D8 := hid (D7.out.call hb8)
 clear hb8
 have d0 := x8.out.cell 0
 have d1 := x8.out.cell 1
 have d2 := x8.out.cell 2
 have e0 := x8.out.free 0
 have e1 := x8.out.free 1
 have e2 := x8.out.free 2
 have g0 := z8.out.cell 0
 have g1 := z8.out.cell 1
 have g2 := z8.out.cell 2
 simp at d0 d1 d2 g0 g1 g2
 by_cases hG : Nat.gcd (bN D) (bN B) = 1
 ·have hO : ordN (Nat.gcd (dv D.data.toList) (dv B.data.toList)) 1 = 0 := by rw [show Nat.gcd (dv D.data.toList) (dv B.data.toList) = 1 from hG]; exact ordN_eq
  have X0 := hid (show xc = 0 from by rw [← HXC.out, if_pos hG])
  rw [hO]
  clear hO hG
  go_wp2_with fail
  obtain ⟨s1, s2⟩ := set3 x8.out M a4 a5 k1 c4 k2 c5
  have f0 := s2.cell 0
  have f1 := s2.cell 1
  have f2 := s2.cell 2
  simp at f0 f1 f2
  refine bodyPost_ret (v := .tuple #[.agg #[.bool M, .slice a4 k1 c4, .slice a5 k2 c5], .int .i64 0]) (by simp [results, Tryz.results85, go_sem, f0, f1, f2]) rfl ⟨by rw [X0.out]; exact ⟨_, rfl, fun _ => ⟨_, _, rfl, s1 _ _ _ N8.out, s1 _ _ _ D8.out, F4.out, F5.out⟩, fun h => absurd rfl h⟩, ?_⟩
  exact ((y8.out.setCell (Nat.le_refl _) _).setCell (Nat.le_refl _) _).setCell (Nat.le_refl _) _
 ·have hO : (ordN (Nat.gcd (dv D.data.toList) (dv B.data.toList)) 1 != 0) = true := by
   have hG' : ¬ Nat.gcd (dv D.data.toList) (dv B.data.toList) = 1 := hG
   unfold ordN
   split
   ·rfl
   ·split
    ·rfl
    ·omega
  have X0 := hid (show xc = 3 from by rw [← HXC.out, if_neg hG])
  obtain ⟨t, ht⟩ : ∃ t, ordN (Nat.gcd (dv D.data.toList) (dv B.data.toList)) 1 = t := ⟨_, rfl⟩
  rw [ht] at hO ⊢
  clear ht hG
  go_wp2_with fail
  obtain ⟨s1, s2⟩ := set3 x8.out false none none 0 0 0 0
  have f0 := s2.cell 0
  have f1 := s2.cell 1
  have f2 := s2.cell 2
  simp at f0 f1 f2
  refine bodyPost_ret (v := .tuple #[.agg #[.bool false, .slice none 0 0, .slice none 0 0], .int .i64 3]) (by simp [results, Tryz.results85, go_sem, f0, f1, f2]) rfl ⟨by rw [X0.out]; exact RetRF.err (by decide), ?_⟩
  exact ((y8.out.setCell (Nat.le_refl _) _).setCell (Nat.le_refl _) _).setCell (Nat.le_refl _) _
theorem rd_intF (w : World) (s W B D : ByteArray) (M fb : Bool) (k : Nat) (hs : s.size ≤ 1000000) (HC : CutR s W B D false M true fb k)
 (hl1 : ¬ 4000 < D.size) (hd1 : allDig D.data.toList) :
 Calls Tryz.prog 85 #[.string s] w fun e w' => RetRF w.heap.size 0 M (bN D) 1 e w' ∧ Below w.heap.size w w' := by
 have HK := hid HC
 have kle := HC.kle
 have hlt := HC.has
 have cw := hid HC.cutW
 have cb := hid HC.cutB
 clear HC
 have t0 := hid (Blk.new w #[.bool false, .slice none 0 0, .slice none 0 0] 83)
 have t1 := hid ((Below.refl w.heap.size w).alloc (Nat.le_refl _) (.cells #[.bool false, .slice none 0 0, .slice none 0 0] 83))
 have wk : IntKind.i64.wrap ((k : Int) + 1) = (k : Int) + 1 := by rw [IntWalk.i64_in _ ⟨by omega, by omega⟩]
 have q0 := hlt.symm
 clear hlt
 have q1 : decide ((4000 : Int) < (D.size : Int)) = false := by simp; omega
 have L1 := hid (bN_limbs hd1 hl1)
 have L2 : Hid ((limbs 1).length ≤ 1000000) := by show _ ≤ _; rw [limbs_one]; decide
 have P1 := fun W => hid (r1_ReadF W D hd1 (by omega))
 have P2 : ∀ W, Hid (Calls Tryz.prog 41 #[.string ⟨#[49]⟩] W fun e w' => RetFr W.heap.size .i64 1 e w' ∧ Below W.heap.size W w') := fun W => hid (r1_ReadF W ⟨#[49]⟩ (by intro b hb; simp at hb; subst hb; rfl) (Nat.succ_le_succ (Nat.zero_le _)))
 have hO : ordN (Nat.gcd (dv D.data.toList) 1) 1 = 0 := by rw [Nat.gcd_one_right]; exact ordN_eq
 have HO := hid hO
 clear hd1 hl1 hO
 go_enter Tryz.func85, Tryz.ntmps85
 go_wp2_with (first
  | (go_at_call 130; refine (HK.out.sl _).mono ?_; rintro e w1 ⟨rfl, rfl⟩)
  | (go_at_call 124; rw [cw.out]; refine (HK.out.int _).mono ?_; rintro e w2 ⟨rfl, rfl⟩)
  | (go_at_call 131; (first | rw [cb.out trivial] | rw [cb.out rfl]); refine (HK.out.form _).mono ?_; rintro e w3 ⟨rfl, rfl⟩)
  | fail)
 refine (P1 _).out.mono ?_; rintro e w4 ⟨⟨v4, rfl, hv4, hf4⟩, hb4⟩
 have F4 := hid (fun g hg => Nat.le_trans t1.out.size (hf4 g hg))
 have x4 := hid (t0.out.call hb4)
 have y4 := hid (bnext t1.out hb4)
 have N4 := hid hv4
 clear hb4 hv4 hf4
 obtain ⟨a4, c4, rfl, _⟩ := N4.out.openI
 obtain ⟨k1, hk1⟩ : ∃ k, (limbs (dv D.data.toList)).length = k := ⟨_, rfl⟩
 rw [hk1] at N4 F4 ⊢
 clear P1
 go_wp2_with fail
 refine (P2 _).out.mono ?_; rintro e w5 ⟨⟨v5, rfl, hv5, hf5⟩, hb5⟩
 have F5 := hid (fun g hg => Nat.le_trans y4.out.size (hf5 g hg))
 have x5 := hid (x4.out.call hb5)
 have y5 := hid (bnext y4.out hb5)
 have N5 := hid (N4.out.call hb5)
 have D5 := hid hv5
 clear hb5 hv5 hf5
 obtain ⟨a5, c5, rfl, _⟩ := D5.out.openI
 obtain ⟨k2, hk2⟩ : ∃ k, (limbs 1).length = k := ⟨_, rfl⟩
 rw [hk2] at D5 F5 ⊢
 clear P2
 go_wp2_with fail
 have z5 := hid (Blk.new w5 #[.bool M, .slice a4 k1 c4, .slice a5 k2 c5] 83)
 have b5 := hid ((Below.refl w5.heap.size w5).alloc (Nat.le_refl _) (.cells #[.bool M, .slice a4 k1 c4, .slice a5 k2 c5] 83))
 have g0 := z5.out.cell 0
 have g1 := z5.out.cell 1
 have g2 := z5.out.cell 2
 simp at g0 g1 g2
 go_wp2_with fail
 refine (r1_Common _ _ _ _ _ (N5.out.call b5.out) (D5.out.call b5.out) L1.out L2.out).mono ?_
 rintro e w6 ⟨⟨v6, rfl, hv6⟩, hb6⟩
 have z6 := hid (z5.out.call hb6)
 have x6 := hid ((x5.out.call b5.out).call hb6)
 have y6 := hid (bnext (bnext y5.out b5.out) hb6)
 have N6 := hid ((N5.out.call b5.out).call hb6)
 have D6 := hid ((D5.out.call b5.out).call hb6)
 have G6 := hid hv6
 clear hb6 hv6 g0 g1 g2
 go_wp2_with fail
 refine (r2_one _).mono ?_
 rintro e w7 ⟨⟨v7, rfl, hv7⟩, hb7⟩
 have z7 := hid (z6.out.call hb7)
 have x7 := hid (x6.out.call hb7)
 have y7 := hid (bnext y6.out hb7)
 have N7 := hid (N6.out.call hb7)
 have D7 := hid (D6.out.call hb7)
 have G7 := hid (G6.out.call hb7)
 have O7 := hid hv7
 clear hb7 hv7
 go_wp2_with fail
 refine (r1_Order _ _ _ _ _ G7.out O7.out).mono ?_
 rintro e w8 ⟨rfl, hb8⟩
 have z8 := hid (z7.out.call hb8)
 have x8 := hid (x7.out.call hb8)
 have y8 := hid (bnext y7.out hb8)
 have N8 := hid (N7.out.call hb8)
 have D8 := hid (D7.out.call hb8)
 clear hb8
 have d0 := x8.out.cell 0
 have d1 := x8.out.cell 1
 have d2 := x8.out.cell 2
 have e0 := x8.out.free 0
 have e1 := x8.out.free 1
 have e2 := x8.out.free 2
 have g0 := z8.out.cell 0
 have g1 := z8.out.cell 1
 have g2 := z8.out.cell 2
 simp at d0 d1 d2 g0 g1 g2
 rw [HO.out]
 go_wp2_with fail
 obtain ⟨s1, s2⟩ := set3 x8.out M a4 a5 k1 c4 k2 c5
 have f0 := s2.cell 0
 have f1 := s2.cell 1
 have f2 := s2.cell 2
 simp at f0 f1 f2
 refine bodyPost_ret (v := .tuple #[.agg #[.bool M, .slice a4 k1 c4, .slice a5 k2 c5], .int .i64 0]) (by simp [results, Tryz.results85, go_sem, f0, f1, f2]) rfl ⟨⟨_, rfl, fun _ => ⟨_, _, rfl, s1 _ _ _ N8.out, s1 _ _ _ D8.out, F4.out, F5.out⟩, fun h => absurd rfl h⟩, ?_⟩
 exact ((y8.out.setCell (Nat.le_refl _) _).setCell (Nat.le_refl _) _).setCell (Nat.le_refl _) _
theorem RetRF.ret {B : Nat} {x : Int} {m : Bool} {n d : Nat} {e : Ending} {w' : World} (h : RetRF B x m n d e w') : RetR x m n d e w' := by
 obtain ⟨v, h1, h2, h3⟩ := h
 refine ⟨v, h1, fun h => ?_, h3⟩
 obtain ⟨N, D, k1, k2, k3, -, -⟩ := h2 h
 exact ⟨N, D, k1, k2, k3⟩
theorem rd_frac (w : World) (s W B D : ByteArray) (M : Bool) (k : Nat) (hs : s.size ≤ 1000000) (HC : CutR s W B D true M true true k)
 (h1 : ¬ D = ⟨#[48]⟩) (h2 : ¬ B = ⟨#[48]⟩) (h3 : ¬ B = ⟨#[49]⟩) (hl1 : ¬ 4000 < D.size) (hl2 : ¬ 4000 < B.size) (hd1 : allDig D.data.toList) (hd2 : allDig B.data.toList) :
 Calls Tryz.prog 85 #[.string s] w fun e w' => RetR (if Nat.gcd (bN D) (bN B) = 1 then 0 else 3) M (bN D) (bN B) e w' ∧ Below w.heap.size w w' :=
 (rd_fracF w s W B D M k hs HC h1 h2 h3 hl1 hl2 hd1 hd2).mono fun _ _ h => ⟨h.1.ret, h.2⟩
theorem rd_int (w : World) (s W B D : ByteArray) (M fb : Bool) (k : Nat) (hs : s.size ≤ 1000000) (HC : CutR s W B D false M true fb k)
 (hl1 : ¬ 4000 < D.size) (hd1 : allDig D.data.toList) :
 Calls Tryz.prog 85 #[.string s] w fun e w' => RetR 0 M (bN D) 1 e w' ∧ Below w.heap.size w w' :=
 (rd_intF w s W B D M fb k hs HC hl1 hd1).mono fun _ _ h => ⟨h.1.ret, h.2⟩
theorem r2_Read0 (w : World) (s : ByteArray) (hs : s.size ≤ 1000000) :
 Calls Tryz.prog 85 #[.string s] w fun e w' => RetR (qE s) (iM (cW s)) (bN (iD (cW s))) (bN (qD s)) e w' ∧ Below w.heap.size w w' := by
 have HC := cutR_of s hs
 by_cases hq : qB s = true
 ·have hi := qB_whole hq
  rw [hi] at HC
  have hdD := fB_dig (iB_form hi)
  have hcS : cS s = false ∨ (cS s = true ∧ ¬ iD (cW s) = ⟨#[48]⟩ ∧ ¬ cB s = ⟨#[48]⟩ ∧ ¬ cB s = ⟨#[49]⟩ ∧ fB (cB s) = true) := by
   have hq' := hq
   unfold qB at hq'
   simp only [Bool.and_eq_true, Bool.or_eq_true, Bool.not_eq_true', decide_eq_true_eq] at hq'
   rcases hq'.2 with h | h
   ·exact .inl h
   ·cases hc : cS s
    ·exact .inl rfl
    ·exact .inr ⟨rfl, h.1.1.1, h.1.2, h.2, h.1.1.2⟩
  by_cases hl : qL s = true
  ·have e : qE s = 5 := by simp [qE, hq, hl]
   rw [e]
   unfold qL at hl
   simp only [Bool.or_eq_true, decide_eq_true_eq] at hl
   refine (rd_long w s _ _ _ _ _ _ _ hs HC hcS ?_).mono ?_
   ·by_cases h4 : 4000 < (iD (cW s)).size
    ·exact .inl h4
    ·refine .inr ⟨h4, ?_⟩
     rcases hcS with hc | ⟨hc, -⟩
     ·rw [qD_false hc] at hl
      exact absurd (hl.resolve_left h4) (by decide)
     ·rw [qD_true hc] at hl
      exact ⟨hc, hl.resolve_left h4⟩
   ·rintro e w' ⟨rfl, hb⟩
    exact ⟨RetR.err (by decide), hb⟩
  ·have hl' : qL s = false := by simpa using hl
   have hl1 : ¬ 4000 < (iD (cW s)).size ∧ ¬ 4000 < (qD s).size := by
    unfold qL at hl'
    simpa using hl'
   rcases hcS with hc | ⟨hc, h1, h2, h3, h4⟩
   ·rw [hc] at HC
    have e : qE s = 0 := by simp [qE, hq, hl', qG, hc]
    rw [e, qD_false hc]
    exact rd_int w s _ _ _ _ _ _ hs HC hl1.1 hdD
   ·rw [hc, h4] at HC
    have hl2 := hl1.2
    rw [qD_true hc] at hl2
    have e : qE s = if Nat.gcd (bN (iD (cW s))) (bN (cB s)) = 1 then 0 else 3 := by
     simp only [qE, hq, hl', qG, hc, qD_true hc]
     by_cases hg : Nat.gcd (bN (iD (cW s))) (bN (cB s)) = 1 <;> simp [hg]
    rw [e, qD_true hc]
    exact rd_frac w s _ _ _ _ _ hs HC h1 h2 h3 hl1.1 hl2 hdD (fB_dig h4)
 ·have hq' : qB s = false := by simpa using hq
  have e : qE s = 3 := by simp [qE, hq']
  rw [e]
  refine (rd_bad w s _ _ _ _ _ _ _ _ hs HC hq').mono ?_
  rintro e w' ⟨rfl, hb⟩
  exact ⟨RetR.err (by decide), hb⟩
def RetQE (s : ByteArray) (e : Ending) (w' : World) : Prop := ∃ v, e = .returned (.tuple #[v, .int .i64 (qE s)]) ∧ (qE s = 0 → IsQ .i64 w' v (vQ s)) ∧ (qE s ≠ 0 → v = .agg #[.bool false, .slice none 0 0, .slice none 0 0])
theorem r2_Read (w : World) (s : ByteArray) (hs : s.size ≤ 1000000) :
 Calls Tryz.prog 85 #[.string s] w fun e w' => RetQE s e w' ∧ Below w.heap.size w w' := by
 refine (r2_Read0 w s hs).mono ?_
 rintro e w' ⟨⟨v, rfl, h1, h2⟩, hb⟩
 refine ⟨⟨v, rfl, fun h => ?_, h2⟩, hb⟩
 obtain ⟨N, D, rfl, hN, hD⟩ := h1 h
 obtain ⟨e1, e2, e3⟩ := vQ_ok h
 exact ⟨N, D, by rw [e1], by rw [e2]; exact hN, by rw [e3]; exact hD⟩
end Go.Proofs.YtgphopkifomffaaGreatDoor
namespace Go.Proofs.YtgphopkifomffaaGreatDoor
open Go.RowKit
theorem neg_parts {q : Rat} {m : Bool} (hm : decide (q.num < 0) = m) : decide ((-q).num < 0) = (!m && decide (0 < q.num.natAbs)) ∧ (-q).num.natAbs = q.num.natAbs ∧ (-q).den = q.den := by
 refine ⟨?_, by rw [Rat.neg_num, Int.natAbs_neg], Rat.neg_den q⟩
 rw [Rat.neg_num, ← hm, Bool.eq_iff_iff]
 simp only [Bool.and_eq_true, Bool.not_eq_true', decide_eq_true_eq, decide_eq_false_iff_not]
 omega
theorem r2_Negative (w : World) (v : Value) (q : Rat) (h : IsQ .i64 w v q) :
 Calls Tryz.prog 89 #[v] w fun e w' => RetQ .i64 (-q) e w' ∧ Below w.heap.size w w' := by
 obtain ⟨N, D, rfl, hn, hd⟩ := h.ex
 obtain ⟨m, hm⟩ : ∃ m, decide (q.num < 0) = m := ⟨_, rfl⟩
 have HN := hid hn; have HD := hid hd; have HP := hid (neg_parts hm)
 rw [hm]
 obtain ⟨a1, c1, rfl, _⟩ := hn.openI
 obtain ⟨a2, c2, rfl, _⟩ := hd.openI
 clear hn hd hm h
 obtain ⟨l, hl⟩ : ∃ l, (limbs q.num.natAbs).length = l := ⟨_, rfl⟩
 have hz : decide (0 < l) = decide (0 < q.num.natAbs) := by
  have h1 : l = 0 ↔ q.num.natAbs = 0 := by rw [← hl, List.length_eq_zero_iff, limbs_nil]
  exact decide_eq_decide.2 (by omega)
 have HZ := hid hz; have HL := hid hl
 rw [hl]
 clear hz hl
 go_enter Tryz.func89, Tryz.ntmps89
 go_wp2_with fail
 all_goals
  obtain ⟨p1, p2, p3⟩ := HP.out
  rw [← HZ.out] at p1
  refine bodyPost_ret (v := .agg #[_, .slice a1 l c1, .slice a2 (limbs q.den).length c2]) (by simp [results, Tryz.results89, go_sem]; rfl) rfl ⟨⟨_, rfl, ⟨.slice a1 l c1, .slice a2 (limbs q.den).length c2, ?_, ?_, ?_⟩⟩, ?_⟩
  ·rw [p1]; clear HP HZ HL HN HD; simp_all
  ·have hh := HN.out
   rw [HL.out] at hh
   rw [p2]; exact hh.call (((Below.refl w.heap.size w).alloc (Nat.le_refl _) _).alloc (by simp) _)
  ·rw [p3]; exact HD.out.call (((Below.refl w.heap.size w).alloc (Nat.le_refl _) _).alloc (by simp) _)
  ·exact (((Below.refl w.heap.size w).alloc (Nat.le_refl _) _).alloc (by simp) _)
def PlKey (m1 m2 : Bool) (x y : Nat) (m : Bool) (s : Nat) : Prop :=
 (m1 = m2 ∧ m = m1 ∧ s = x + y) ∨ ((m1 == m2) = false ∧ x < y ∧ m = m2 ∧ s = y - x) ∨ ((m1 == m2) = false ∧ y ≤ x ∧ m = m1 ∧ s = x - y)
theorem limbs_add {a b p : Nat} (ha : (limbs a).length ≤ p) (hb : (limbs b).length ≤ p) : (limbs (a + b)).length ≤ p + 1 := by
 refine limbs_length_le.2 ?_
 have h1 := limbs_length_le.1 ha
 have h2 := limbs_length_le.1 hb
 rw [Nat.pow_succ]
 omega
theorem ord_ge {x y : Nat} (h : y ≤ x) : decide (ordN x y < 0) = false := by
 unfold ordN
 split
 ·omega
 ·split <;> simp
theorem r2_Plus_walk (w : World) (m1 m2 m : Bool) (N1 D1 N2 D2 : Value) (n1 d1 n2 d2 s : Nat) (hn1 : IsN .i64 w N1 n1) (hd1 : IsN .i64 w D1 d1) (hn2 : IsN .i64 w N2 n2) (hd2 : IsN .i64 w D2 d2)
 (l1 : (limbs n1).length ≤ 100000) (l2 : (limbs d1).length ≤ 100000) (l3 : (limbs n2).length ≤ 100000) (l4 : (limbs d2).length ≤ 100000) (p1 : 0 < d1) (p2 : 0 < d2) (key : PlKey m1 m2 (n1 * d2) (n2 * d1) m s) :
 Calls Tryz.prog 88 #[.agg #[.bool m1, N1, D1], .agg #[.bool m2, N2, D2]] w fun e w' => RetQ .i64 (qmk m s (d1 * d2)) e w' ∧ Below w.heap.size w w' := by
 have HN1 := hid hn1; have HD1 := hid hd1; have HN2 := hid hn2; have HD2 := hid hd2
 have L1 := hid (Nat.le_trans (limbs_mul l1 l4) (show 100000 + 100000 ≤ 1000000 by omega))
 have L2 := hid (Nat.le_trans (limbs_mul l3 l2) (show 100000 + 100000 ≤ 1000000 by omega))
 have L3 := hid (Nat.le_trans (limbs_mul l2 l4) (show 100000 + 100000 ≤ 1000000 by omega))
 have H1 := hid (Nat.le_trans l1 (show 100000 ≤ 1000000 by omega))
 have H2 := hid (Nat.le_trans l2 (show 100000 ≤ 1000000 by omega))
 have H3 := hid (Nat.le_trans l3 (show 100000 ≤ 1000000 by omega))
 have H4 := hid (Nat.le_trans l4 (show 100000 ≤ 1000000 by omega))
 have hD := hid (Nat.mul_pos p1 p2)
 have LS : Hid ((limbs s).length ≤ 1000000) := by
  have q1 := limbs_mul l1 l4
  have q2 := limbs_mul l3 l2
  have q3 := limbs_add q1 q2
  have q4 : (limbs s).length ≤ (limbs (n1 * d2 + n2 * d1)).length := limbs_length_mono (by rcases key with ⟨-, -, rfl⟩ | ⟨-, -, -, rfl⟩ | ⟨-, -, -, rfl⟩ <;> omega)
  show _ ≤ _
  omega
 clear l1 l2 l3 l4 p1 p2
 obtain ⟨a1, c1, rfl, _⟩ := hn1.openI
 obtain ⟨a2, c2, rfl, _⟩ := hd1.openI
 obtain ⟨a3, c3, rfl, _⟩ := hn2.openI
 obtain ⟨a4, c4, rfl, _⟩ := hd2.openI
 obtain ⟨k1, hk1⟩ : ∃ k, (limbs n1).length = k := ⟨_, rfl⟩
 obtain ⟨k2, hk2⟩ : ∃ k, (limbs d1).length = k := ⟨_, rfl⟩
 obtain ⟨k3, hk3⟩ : ∃ k, (limbs n2).length = k := ⟨_, rfl⟩
 obtain ⟨k4, hk4⟩ : ∃ k, (limbs d2).length = k := ⟨_, rfl⟩
 rw [hk1] at HN1 ⊢
 rw [hk2] at HD1 ⊢
 rw [hk3] at HN2 ⊢
 rw [hk4] at HD2 ⊢
 clear hn1 hd1 hn2 hd2 hk1 hk2 hk3 hk4
 obtain ⟨x, hx⟩ : ∃ x, n1 * d2 = x := ⟨_, rfl⟩
 obtain ⟨y, hy⟩ : ∃ y, n2 * d1 = y := ⟨_, rfl⟩
 obtain ⟨z, hz⟩ : ∃ z, d1 * d2 = z := ⟨_, rfl⟩
 rw [hx, hy] at key
 rw [hx] at L1
 rw [hy] at L2
 rw [hz] at hD L3 ⊢
 have HX := hid hx; have HY := hid hy; have HZ := hid hz
 clear hx hy hz
 unfold PlKey at key
 rcases key with ⟨rfl, rfl, rfl⟩ | ⟨hne, hlt, rfl, rfl⟩ | ⟨hne, hle, rfl, rfl⟩
 ·go_enter Tryz.func88, Tryz.ntmps88
  go_wp2_with fail
  obtain ⟨W, hW⟩ : ∃ W, ((w.alloc (.cells #[.bool m, .slice a1 k1 c1, .slice a2 k2 c2] 83)).alloc (.cells #[.bool m, .slice a3 k3 c3, .slice a4 k4 c4] 83)).alloc (.cells #[.bool false, .slice none 0 0, .slice none 0 0] 83) = W := ⟨_, rfl⟩
  rw [hW]
  have X0 : Below w.heap.size w W := by rw [← hW]; exact (((Below.refl _ _).alloc (Nat.le_refl _) _).alloc (by simp) _).alloc (by simp; omega) _
  have Y0 : Blk W w.heap.size #[.bool m, .slice a1 k1 c1, .slice a2 k2 c2] 83 := by rw [← hW]; exact ((Blk.new w _ _).alloc _).alloc _
  have Y1 : Blk W (w.heap.size + 1) #[.bool m, .slice a3 k3 c3, .slice a4 k4 c4] 83 := by rw [← hW]; exact (Blk.made (w.alloc _) _ _ (by simp)).alloc _
  have Y2 : Blk W (w.heap.size + 1 + 1) #[.bool false, .slice none 0 0, .slice none 0 0] 83 := by rw [← hW]; exact Blk.made ((w.alloc _).alloc _) _ _ (by simp)
  have K : Hid (∀ w', Below W.heap.size W w' → w'.cell? ⟨w.heap.size, 0, none⟩ = some (.bool m) ∧ w'.cell? ⟨w.heap.size, 1, none⟩ = some (.slice a1 k1 c1) ∧ w'.cell? ⟨w.heap.size, 2, none⟩ = some (.slice a2 k2 c2) ∧ w'.cell? ⟨w.heap.size + 1, 0, none⟩ = some (.bool m) ∧ w'.cell? ⟨w.heap.size + 1, 1, none⟩ = some (.slice a3 k3 c3) ∧ w'.cell? ⟨w.heap.size + 1, 2, none⟩ = some (.slice a4 k4 c4)) := fun w' hb => ⟨(Y0.call hb).cell 0, (Y0.call hb).cell 1, (Y0.call hb).cell 2, (Y1.call hb).cell 0, (Y1.call hb).cell 1, (Y1.call hb).cell 2⟩
  have HY0 := hid Y0; have HY1 := hid Y1; have HY2 := hid Y2; have HX0 := hid X0
  obtain ⟨i0, i1, i2, i3, i4, i5⟩ := K W (Below.refl _ _)
  clear Y0 Y1 Y2 X0 hW
  have XN1 := hid (HN1.out.call HX0.out); have XD1 := hid (HD1.out.call HX0.out); have XN2 := hid (HN2.out.call HX0.out); have XD2 := hid (HD2.out.call HX0.out)
  go_region_held3 (fun w' => w'.cell? ⟨w.heap.size, 0, none⟩ = some (.bool m) ∧ w'.cell? ⟨w.heap.size, 1, none⟩ = some (.slice a1 k1 c1) ∧ w'.cell? ⟨w.heap.size, 2, none⟩ = some (.slice a2 k2 c2) ∧ w'.cell? ⟨w.heap.size + 1, 0, none⟩ = some (.bool m) ∧ w'.cell? ⟨w.heap.size + 1, 1, none⟩ = some (.slice a3 k3 c3) ∧ w'.cell? ⟨w.heap.size + 1, 2, none⟩ = some (.slice a4 k4 c4))
   (first
    | exact K.out _ (Below.refl _ _).drew
    | exact K.out _ bb2.out
    | exact K.out _ bb1.out)
   (first
    | (go_at_call_of 87 (Value.slice a1 k1 c1); refine (r1_Times _ _ _ n1 d2 (XN1.out.call (by first | exact bb2.out | exact (Below.refl _ _).drew)) (XD2.out.call (by first | exact bb2.out | exact (Below.refl _ _).drew)) H1.out H4.out).mono ?_; rintro e w1 ⟨⟨v1, rfl, hv1⟩, hb1⟩; have bb1 := hid (bnext (by first | exact bb2.out | exact (Below.refl _ _).drew) hb1))
    | (go_at_call_of 87 (Value.slice a3 k3 c3); refine (r1_Times _ _ _ n2 d1 (XN2.out.call (by first | exact bb1.out | exact (Below.refl _ _).drew)) (XD1.out.call (by first | exact bb1.out | exact (Below.refl _ _).drew)) H3.out H2.out).mono ?_; rintro e w2 ⟨⟨v2, rfl, hv2⟩, hb2⟩; have bb2 := hid (bnext (by first | exact bb1.out | exact (Below.refl _ _).drew) hb2)))
  have V2 := hid hv2; have V1 := hid (hv1.call hb2)
  rw [HX.out] at V1
  rw [HY.out] at V2
  clear hv1 hv2 hb1 hb2 i0 i1 i2 i3 i4 i5
  obtain ⟨i0, i1, i2, i3, i4, i5⟩ := K.out _ bb2.out
  go_wp2_with fail
  refine (r1_Times _ _ _ d1 d2 (XD1.out.call bb2.out) (XD2.out.call bb2.out) H2.out H4.out).mono ?_; rintro e w3 ⟨⟨v3, rfl, hv3⟩, hb3⟩
  have bb3 := hid (bnext bb2.out hb3)
  rw [HZ.out] at hv3
  have V3 := hid hv3
  have V1' := hid (V1.out.call hb3); have V2' := hid (V2.out.call hb3)
  clear hv3 hb3 i0 i1 i2 i3 i4 i5 V1 V2
  obtain ⟨i0, i1, i2, i3, i4, i5⟩ := K.out _ bb3.out
  obtain ⟨ja1, jc1, rfl, _⟩ := V1'.out.openI
  obtain ⟨ja2, jc2, rfl, _⟩ := V2'.out.openI
  obtain ⟨ja3, jc3, rfl, _⟩ := V3.out.openI
  obtain ⟨jk1, hj1⟩ : ∃ k, (limbs x).length = k := ⟨_, rfl⟩
  obtain ⟨jk2, hj2⟩ : ∃ k, (limbs y).length = k := ⟨_, rfl⟩
  obtain ⟨jk3, hj3⟩ : ∃ k, (limbs z).length = k := ⟨_, rfl⟩
  rw [hj1] at V1' ⊢
  rw [hj2] at V2' ⊢
  rw [hj3] at V3 ⊢
  clear hj1 hj2 hj3
  go_wp2_with fail
  have K2 : Hid (∀ w1 x y z, Below W.heap.size W w1 → ∀ w', ((w1.setCell ⟨w.heap.size + 1 + 1, 0, none⟩ x).setCell ⟨w.heap.size + 1 + 1, 1, none⟩ y).setCell ⟨w.heap.size + 1 + 1, 2, none⟩ z = w' → w'.cell? ⟨w.heap.size, 0, none⟩ = some (.bool m) ∧ w'.cell? ⟨w.heap.size, 1, none⟩ = some (.slice a1 k1 c1) ∧ w'.cell? ⟨w.heap.size, 2, none⟩ = some (.slice a2 k2 c2) ∧ w'.cell? ⟨w.heap.size + 1, 0, none⟩ = some (.bool m) ∧ w'.cell? ⟨w.heap.size + 1, 1, none⟩ = some (.slice a3 k3 c3) ∧ w'.cell? ⟨w.heap.size + 1, 2, none⟩ = some (.slice a4 k4 c4)) := by
   rintro w1 x y z hb _ rfl
   have Z0 := (((HY0.out.call hb).other (a := ⟨w.heap.size + 1 + 1, 0, none⟩) (by simp; omega) x).other (a := ⟨w.heap.size + 1 + 1, 1, none⟩) (by simp; omega) y).other (a := ⟨w.heap.size + 1 + 1, 2, none⟩) (by simp; omega) z
   have Z1 := (((HY1.out.call hb).other (a := ⟨w.heap.size + 1 + 1, 0, none⟩) (by simp) x).other (a := ⟨w.heap.size + 1 + 1, 1, none⟩) (by simp) y).other (a := ⟨w.heap.size + 1 + 1, 2, none⟩) (by simp) z
   exact ⟨Z0.cell 0, Z0.cell 1, Z0.cell 2, Z1.cell 0, Z1.cell 1, Z1.cell 2⟩
  go_region_held3 (fun w' => w'.cell? ⟨w.heap.size, 0, none⟩ = some (.bool m) ∧ w'.cell? ⟨w.heap.size, 1, none⟩ = some (.slice a1 k1 c1) ∧ w'.cell? ⟨w.heap.size, 2, none⟩ = some (.slice a2 k2 c2) ∧ w'.cell? ⟨w.heap.size + 1, 0, none⟩ = some (.bool m) ∧ w'.cell? ⟨w.heap.size + 1, 1, none⟩ = some (.slice a3 k3 c3) ∧ w'.cell? ⟨w.heap.size + 1, 2, none⟩ = some (.slice a4 k4 c4))
   (first
    | exact K.out _ (by first | exact bb3.out.drew | exact below_drewN bb3.out _)
    | exact K2.out _ _ _ _ bb6.out _ rfl
    | exact K.out _ bb6.out
    | exact K.out _ bb5.out)
   (first
    | (go_at_call 73; refine (r1_Plus _ _ _ x y (V1'.out.call (by first | exact (Below.refl _ _).drew | exact below_drewN (Below.refl _ _) _ | exact Below.refl _ _)) (V2'.out.call (by first | exact (Below.refl _ _).drew | exact below_drewN (Below.refl _ _) _ | exact Below.refl _ _)) L1.out L2.out).mono ?_; rintro e w5 ⟨⟨v5, rfl, hv5⟩, hb5⟩; have bb5 := hid (bnext (by first | exact bb3.out.drew | exact below_drewN bb3.out _ | exact bb3.out) hb5); have V5 := hid hv5; have Z5 := hid ((V3.out.call (Below.refl _ _).drew).call hb5))
    | (go_at_call 86; refine (r2_Reduce _ _ _ _ (x + y) z V5.out Z5.out hD.out LS.out L3.out).mono ?_; rintro e w6 ⟨⟨v6, rfl, hv6⟩, hb6⟩; obtain ⟨N6, D6, rfl, hN6, hD6⟩ := hv6.ex; have bb6 := hid (bnext bb5.out hb6); obtain ⟨a5, c5, rfl, _⟩ := hN6.openI; obtain ⟨a6, c6, rfl, _⟩ := hD6.openI; have HN6 := hid hN6; have HD6 := hid hD6; have Z := hid (HY2.out.call bb6.out); have t0 := Z.out.cell 0; have t1 := Z.out.cell 1; have t2 := Z.out.cell 2; have t3 := Z.out.free 0; have t4 := Z.out.free 1; have t5 := Z.out.free 2; clear hv6 hN6 hD6))
  go_wp2_with fail
  obtain ⟨s1, s2⟩ := set3 Z.out (decide ((qmk m (x + y) z).num < 0)) a5 a6 (limbs (qmk m (x + y) z).num.natAbs).length c5 (limbs (qmk m (x + y) z).den).length c6
  have f0 := s2.cell 0
  have f1 := s2.cell 1
  have f2 := s2.cell 2
  simp at f0 f1 f2
  refine bodyPost_ret (v := .agg #[.bool (decide ((qmk m (x + y) z).num < 0)), .slice a5 (limbs (qmk m (x + y) z).num.natAbs).length c5, .slice a6 (limbs (qmk m (x + y) z).den).length c6]) (by simp [results, Tryz.results88, go_sem, f0, f1, f2]) rfl ⟨⟨_, rfl, ⟨_, _, rfl, s1 _ _ _ HN6.out, s1 _ _ _ HD6.out⟩⟩, ?_⟩
  exact (((HX0.out.trans (bb6.out.mono (Nat.le_trans (Nat.le_refl _) HX0.out.size))).setCell (by simp; omega) _).setCell (by simp; omega) _).setCell (by simp; omega) _
 ·have HLT := hid hlt; have HLE := hid (Nat.le_of_lt hlt)
  clear hlt
  go_enter Tryz.func88, Tryz.ntmps88
  go_wp2_with fail
  obtain ⟨W, hW⟩ : ∃ W, ((w.alloc (.cells #[.bool m1, .slice a1 k1 c1, .slice a2 k2 c2] 83)).alloc (.cells #[.bool m, .slice a3 k3 c3, .slice a4 k4 c4] 83)).alloc (.cells #[.bool false, .slice none 0 0, .slice none 0 0] 83) = W := ⟨_, rfl⟩
  rw [hW]
  have X0 : Below w.heap.size w W := by rw [← hW]; exact (((Below.refl _ _).alloc (Nat.le_refl _) _).alloc (by simp) _).alloc (by simp; omega) _
  have Y0 : Blk W w.heap.size #[.bool m1, .slice a1 k1 c1, .slice a2 k2 c2] 83 := by rw [← hW]; exact ((Blk.new w _ _).alloc _).alloc _
  have Y1 : Blk W (w.heap.size + 1) #[.bool m, .slice a3 k3 c3, .slice a4 k4 c4] 83 := by rw [← hW]; exact (Blk.made (w.alloc _) _ _ (by simp)).alloc _
  have Y2 : Blk W (w.heap.size + 1 + 1) #[.bool false, .slice none 0 0, .slice none 0 0] 83 := by rw [← hW]; exact Blk.made ((w.alloc _).alloc _) _ _ (by simp)
  have K : Hid (∀ w', Below W.heap.size W w' → w'.cell? ⟨w.heap.size, 0, none⟩ = some (.bool m1) ∧ w'.cell? ⟨w.heap.size, 1, none⟩ = some (.slice a1 k1 c1) ∧ w'.cell? ⟨w.heap.size, 2, none⟩ = some (.slice a2 k2 c2) ∧ w'.cell? ⟨w.heap.size + 1, 0, none⟩ = some (.bool m) ∧ w'.cell? ⟨w.heap.size + 1, 1, none⟩ = some (.slice a3 k3 c3) ∧ w'.cell? ⟨w.heap.size + 1, 2, none⟩ = some (.slice a4 k4 c4)) := fun w' hb => ⟨(Y0.call hb).cell 0, (Y0.call hb).cell 1, (Y0.call hb).cell 2, (Y1.call hb).cell 0, (Y1.call hb).cell 1, (Y1.call hb).cell 2⟩
  have HY0 := hid Y0; have HY1 := hid Y1; have HY2 := hid Y2; have HX0 := hid X0
  obtain ⟨i0, i1, i2, i3, i4, i5⟩ := K W (Below.refl _ _)
  clear Y0 Y1 Y2 X0 hW
  have XN1 := hid (HN1.out.call HX0.out); have XD1 := hid (HD1.out.call HX0.out); have XN2 := hid (HN2.out.call HX0.out); have XD2 := hid (HD2.out.call HX0.out)
  go_region_held3 (fun w' => w'.cell? ⟨w.heap.size, 0, none⟩ = some (.bool m1) ∧ w'.cell? ⟨w.heap.size, 1, none⟩ = some (.slice a1 k1 c1) ∧ w'.cell? ⟨w.heap.size, 2, none⟩ = some (.slice a2 k2 c2) ∧ w'.cell? ⟨w.heap.size + 1, 0, none⟩ = some (.bool m) ∧ w'.cell? ⟨w.heap.size + 1, 1, none⟩ = some (.slice a3 k3 c3) ∧ w'.cell? ⟨w.heap.size + 1, 2, none⟩ = some (.slice a4 k4 c4))
   (first
    | exact K.out _ (Below.refl _ _).drew
    | exact K.out _ bb2.out
    | exact K.out _ bb1.out)
   (first
    | (go_at_call_of 87 (Value.slice a1 k1 c1); refine (r1_Times _ _ _ n1 d2 (XN1.out.call (by first | exact bb2.out | exact (Below.refl _ _).drew)) (XD2.out.call (by first | exact bb2.out | exact (Below.refl _ _).drew)) H1.out H4.out).mono ?_; rintro e w1 ⟨⟨v1, rfl, hv1⟩, hb1⟩; have bb1 := hid (bnext (by first | exact bb2.out | exact (Below.refl _ _).drew) hb1))
    | (go_at_call_of 87 (Value.slice a3 k3 c3); refine (r1_Times _ _ _ n2 d1 (XN2.out.call (by first | exact bb1.out | exact (Below.refl _ _).drew)) (XD1.out.call (by first | exact bb1.out | exact (Below.refl _ _).drew)) H3.out H2.out).mono ?_; rintro e w2 ⟨⟨v2, rfl, hv2⟩, hb2⟩; have bb2 := hid (bnext (by first | exact bb1.out | exact (Below.refl _ _).drew) hb2)))
  have V2 := hid hv2; have V1 := hid (hv1.call hb2)
  rw [HX.out] at V1
  rw [HY.out] at V2
  clear hv1 hv2 hb1 hb2 i0 i1 i2 i3 i4 i5
  obtain ⟨i0, i1, i2, i3, i4, i5⟩ := K.out _ bb2.out
  go_wp2_with fail
  refine (r1_Times _ _ _ d1 d2 (XD1.out.call bb2.out) (XD2.out.call bb2.out) H2.out H4.out).mono ?_; rintro e w3 ⟨⟨v3, rfl, hv3⟩, hb3⟩
  have bb3 := hid (bnext bb2.out hb3)
  rw [HZ.out] at hv3
  have V3 := hid hv3
  have V1' := hid (V1.out.call hb3); have V2' := hid (V2.out.call hb3)
  clear hv3 hb3 i0 i1 i2 i3 i4 i5 V1 V2
  obtain ⟨i0, i1, i2, i3, i4, i5⟩ := K.out _ bb3.out
  obtain ⟨ja1, jc1, rfl, _⟩ := V1'.out.openI
  obtain ⟨ja2, jc2, rfl, _⟩ := V2'.out.openI
  obtain ⟨ja3, jc3, rfl, _⟩ := V3.out.openI
  obtain ⟨jk1, hj1⟩ : ∃ k, (limbs x).length = k := ⟨_, rfl⟩
  obtain ⟨jk2, hj2⟩ : ∃ k, (limbs y).length = k := ⟨_, rfl⟩
  obtain ⟨jk3, hj3⟩ : ∃ k, (limbs z).length = k := ⟨_, rfl⟩
  rw [hj1] at V1' ⊢
  rw [hj2] at V2' ⊢
  rw [hj3] at V3 ⊢
  clear hj1 hj2 hj3
  go_wp2_with fail
  refine (r1_Order _ _ _ x y V1'.out V2'.out).mono ?_; rintro e w4 ⟨rfl, hb4⟩
  have bb4 := hid (bnext bb3.out hb4)
  have W1 := hid (V1'.out.call hb4); have W2 := hid (V2'.out.call hb4); have W3 := hid (V3.out.call hb4)
  clear hb4 i0 i1 i2 i3 i4 i5
  obtain ⟨i0, i1, i2, i3, i4, i5⟩ := K.out _ bb4.out
  rw [ordN_lt HLT.out]
  go_wp2_with fail
  have K2 : Hid (∀ w1 x y z, Below W.heap.size W w1 → ∀ w', ((w1.setCell ⟨w.heap.size + 1 + 1, 0, none⟩ x).setCell ⟨w.heap.size + 1 + 1, 1, none⟩ y).setCell ⟨w.heap.size + 1 + 1, 2, none⟩ z = w' → w'.cell? ⟨w.heap.size, 0, none⟩ = some (.bool m1) ∧ w'.cell? ⟨w.heap.size, 1, none⟩ = some (.slice a1 k1 c1) ∧ w'.cell? ⟨w.heap.size, 2, none⟩ = some (.slice a2 k2 c2) ∧ w'.cell? ⟨w.heap.size + 1, 0, none⟩ = some (.bool m) ∧ w'.cell? ⟨w.heap.size + 1, 1, none⟩ = some (.slice a3 k3 c3) ∧ w'.cell? ⟨w.heap.size + 1, 2, none⟩ = some (.slice a4 k4 c4)) := by
   rintro w1 x y z hb _ rfl
   have Z0 := (((HY0.out.call hb).other (a := ⟨w.heap.size + 1 + 1, 0, none⟩) (by simp; omega) x).other (a := ⟨w.heap.size + 1 + 1, 1, none⟩) (by simp; omega) y).other (a := ⟨w.heap.size + 1 + 1, 2, none⟩) (by simp; omega) z
   have Z1 := (((HY1.out.call hb).other (a := ⟨w.heap.size + 1 + 1, 0, none⟩) (by simp) x).other (a := ⟨w.heap.size + 1 + 1, 1, none⟩) (by simp) y).other (a := ⟨w.heap.size + 1 + 1, 2, none⟩) (by simp) z
   exact ⟨Z0.cell 0, Z0.cell 1, Z0.cell 2, Z1.cell 0, Z1.cell 1, Z1.cell 2⟩
  go_region_held3 (fun w' => w'.cell? ⟨w.heap.size, 0, none⟩ = some (.bool m1) ∧ w'.cell? ⟨w.heap.size, 1, none⟩ = some (.slice a1 k1 c1) ∧ w'.cell? ⟨w.heap.size, 2, none⟩ = some (.slice a2 k2 c2) ∧ w'.cell? ⟨w.heap.size + 1, 0, none⟩ = some (.bool m) ∧ w'.cell? ⟨w.heap.size + 1, 1, none⟩ = some (.slice a3 k3 c3) ∧ w'.cell? ⟨w.heap.size + 1, 2, none⟩ = some (.slice a4 k4 c4))
   (first
    | exact K.out _ (by first | exact bb4.out.drew | exact below_drewN bb4.out _)
    | exact K2.out _ _ _ _ bb6.out _ rfl
    | exact K.out _ bb6.out
    | exact K.out _ bb5.out)
   (first
    | (go_at_call 135; refine (r1_Minus _ _ _ y x (W2.out.call (by first | exact (Below.refl _ _).drew | exact below_drewN (Below.refl _ _) _ | exact Below.refl _ _)) (W1.out.call (by first | exact (Below.refl _ _).drew | exact below_drewN (Below.refl _ _) _ | exact Below.refl _ _)) HLE.out L2.out).mono ?_; rintro e w5 ⟨⟨v5, rfl, hv5⟩, hb5⟩; have bb5 := hid (bnext (by first | exact bb4.out.drew | exact below_drewN bb4.out _ | exact bb4.out) hb5); have V5 := hid hv5; have Z5 := hid ((W3.out.call (Below.refl _ _).drew).call hb5))
    | (go_at_call 86; refine (r2_Reduce _ _ _ _ (y - x) z V5.out Z5.out hD.out LS.out L3.out).mono ?_; rintro e w6 ⟨⟨v6, rfl, hv6⟩, hb6⟩; obtain ⟨N6, D6, rfl, hN6, hD6⟩ := hv6.ex; have bb6 := hid (bnext bb5.out hb6); obtain ⟨a5, c5, rfl, _⟩ := hN6.openI; obtain ⟨a6, c6, rfl, _⟩ := hD6.openI; have HN6 := hid hN6; have HD6 := hid hD6; have Z := hid (HY2.out.call bb6.out); have t0 := Z.out.cell 0; have t1 := Z.out.cell 1; have t2 := Z.out.cell 2; have t3 := Z.out.free 0; have t4 := Z.out.free 1; have t5 := Z.out.free 2; clear hv6 hN6 hD6))
  go_wp2_with fail
  obtain ⟨s1, s2⟩ := set3 Z.out (decide ((qmk m (y - x) z).num < 0)) a5 a6 (limbs (qmk m (y - x) z).num.natAbs).length c5 (limbs (qmk m (y - x) z).den).length c6
  have f0 := s2.cell 0
  have f1 := s2.cell 1
  have f2 := s2.cell 2
  simp at f0 f1 f2
  refine bodyPost_ret (v := .agg #[.bool (decide ((qmk m (y - x) z).num < 0)), .slice a5 (limbs (qmk m (y - x) z).num.natAbs).length c5, .slice a6 (limbs (qmk m (y - x) z).den).length c6]) (by simp [results, Tryz.results88, go_sem, f0, f1, f2]) rfl ⟨⟨_, rfl, ⟨_, _, rfl, s1 _ _ _ HN6.out, s1 _ _ _ HD6.out⟩⟩, ?_⟩
  exact (((HX0.out.trans (bb6.out.mono (Nat.le_trans (Nat.le_refl _) HX0.out.size))).setCell (by simp; omega) _).setCell (by simp; omega) _).setCell (by simp; omega) _
 ·have HLE := hid hle
  clear hle
  go_enter Tryz.func88, Tryz.ntmps88
  go_wp2_with fail
  obtain ⟨W, hW⟩ : ∃ W, ((w.alloc (.cells #[.bool m, .slice a1 k1 c1, .slice a2 k2 c2] 83)).alloc (.cells #[.bool m2, .slice a3 k3 c3, .slice a4 k4 c4] 83)).alloc (.cells #[.bool false, .slice none 0 0, .slice none 0 0] 83) = W := ⟨_, rfl⟩
  rw [hW]
  have X0 : Below w.heap.size w W := by rw [← hW]; exact (((Below.refl _ _).alloc (Nat.le_refl _) _).alloc (by simp) _).alloc (by simp; omega) _
  have Y0 : Blk W w.heap.size #[.bool m, .slice a1 k1 c1, .slice a2 k2 c2] 83 := by rw [← hW]; exact ((Blk.new w _ _).alloc _).alloc _
  have Y1 : Blk W (w.heap.size + 1) #[.bool m2, .slice a3 k3 c3, .slice a4 k4 c4] 83 := by rw [← hW]; exact (Blk.made (w.alloc _) _ _ (by simp)).alloc _
  have Y2 : Blk W (w.heap.size + 1 + 1) #[.bool false, .slice none 0 0, .slice none 0 0] 83 := by rw [← hW]; exact Blk.made ((w.alloc _).alloc _) _ _ (by simp)
  have K : Hid (∀ w', Below W.heap.size W w' → w'.cell? ⟨w.heap.size, 0, none⟩ = some (.bool m) ∧ w'.cell? ⟨w.heap.size, 1, none⟩ = some (.slice a1 k1 c1) ∧ w'.cell? ⟨w.heap.size, 2, none⟩ = some (.slice a2 k2 c2) ∧ w'.cell? ⟨w.heap.size + 1, 0, none⟩ = some (.bool m2) ∧ w'.cell? ⟨w.heap.size + 1, 1, none⟩ = some (.slice a3 k3 c3) ∧ w'.cell? ⟨w.heap.size + 1, 2, none⟩ = some (.slice a4 k4 c4)) := fun w' hb => ⟨(Y0.call hb).cell 0, (Y0.call hb).cell 1, (Y0.call hb).cell 2, (Y1.call hb).cell 0, (Y1.call hb).cell 1, (Y1.call hb).cell 2⟩
  have HY0 := hid Y0; have HY1 := hid Y1; have HY2 := hid Y2; have HX0 := hid X0
  obtain ⟨i0, i1, i2, i3, i4, i5⟩ := K W (Below.refl _ _)
  clear Y0 Y1 Y2 X0 hW
  have XN1 := hid (HN1.out.call HX0.out); have XD1 := hid (HD1.out.call HX0.out); have XN2 := hid (HN2.out.call HX0.out); have XD2 := hid (HD2.out.call HX0.out)
  go_region_held3 (fun w' => w'.cell? ⟨w.heap.size, 0, none⟩ = some (.bool m) ∧ w'.cell? ⟨w.heap.size, 1, none⟩ = some (.slice a1 k1 c1) ∧ w'.cell? ⟨w.heap.size, 2, none⟩ = some (.slice a2 k2 c2) ∧ w'.cell? ⟨w.heap.size + 1, 0, none⟩ = some (.bool m2) ∧ w'.cell? ⟨w.heap.size + 1, 1, none⟩ = some (.slice a3 k3 c3) ∧ w'.cell? ⟨w.heap.size + 1, 2, none⟩ = some (.slice a4 k4 c4))
   (first
    | exact K.out _ (Below.refl _ _).drew
    | exact K.out _ bb2.out
    | exact K.out _ bb1.out)
   (first
    | (go_at_call_of 87 (Value.slice a1 k1 c1); refine (r1_Times _ _ _ n1 d2 (XN1.out.call (by first | exact bb2.out | exact (Below.refl _ _).drew)) (XD2.out.call (by first | exact bb2.out | exact (Below.refl _ _).drew)) H1.out H4.out).mono ?_; rintro e w1 ⟨⟨v1, rfl, hv1⟩, hb1⟩; have bb1 := hid (bnext (by first | exact bb2.out | exact (Below.refl _ _).drew) hb1))
    | (go_at_call_of 87 (Value.slice a3 k3 c3); refine (r1_Times _ _ _ n2 d1 (XN2.out.call (by first | exact bb1.out | exact (Below.refl _ _).drew)) (XD1.out.call (by first | exact bb1.out | exact (Below.refl _ _).drew)) H3.out H2.out).mono ?_; rintro e w2 ⟨⟨v2, rfl, hv2⟩, hb2⟩; have bb2 := hid (bnext (by first | exact bb1.out | exact (Below.refl _ _).drew) hb2)))
  have V2 := hid hv2; have V1 := hid (hv1.call hb2)
  rw [HX.out] at V1
  rw [HY.out] at V2
  clear hv1 hv2 hb1 hb2 i0 i1 i2 i3 i4 i5
  obtain ⟨i0, i1, i2, i3, i4, i5⟩ := K.out _ bb2.out
  go_wp2_with fail
  refine (r1_Times _ _ _ d1 d2 (XD1.out.call bb2.out) (XD2.out.call bb2.out) H2.out H4.out).mono ?_; rintro e w3 ⟨⟨v3, rfl, hv3⟩, hb3⟩
  have bb3 := hid (bnext bb2.out hb3)
  rw [HZ.out] at hv3
  have V3 := hid hv3
  have V1' := hid (V1.out.call hb3); have V2' := hid (V2.out.call hb3)
  clear hv3 hb3 i0 i1 i2 i3 i4 i5 V1 V2
  obtain ⟨i0, i1, i2, i3, i4, i5⟩ := K.out _ bb3.out
  obtain ⟨ja1, jc1, rfl, _⟩ := V1'.out.openI
  obtain ⟨ja2, jc2, rfl, _⟩ := V2'.out.openI
  obtain ⟨ja3, jc3, rfl, _⟩ := V3.out.openI
  obtain ⟨jk1, hj1⟩ : ∃ k, (limbs x).length = k := ⟨_, rfl⟩
  obtain ⟨jk2, hj2⟩ : ∃ k, (limbs y).length = k := ⟨_, rfl⟩
  obtain ⟨jk3, hj3⟩ : ∃ k, (limbs z).length = k := ⟨_, rfl⟩
  rw [hj1] at V1' ⊢
  rw [hj2] at V2' ⊢
  rw [hj3] at V3 ⊢
  clear hj1 hj2 hj3
  go_wp2_with fail
  refine (r1_Order _ _ _ x y V1'.out V2'.out).mono ?_; rintro e w4 ⟨rfl, hb4⟩
  have bb4 := hid (bnext bb3.out hb4)
  have W1 := hid (V1'.out.call hb4); have W2 := hid (V2'.out.call hb4); have W3 := hid (V3.out.call hb4)
  clear hb4 i0 i1 i2 i3 i4 i5
  obtain ⟨i0, i1, i2, i3, i4, i5⟩ := K.out _ bb4.out
  obtain ⟨t, ht⟩ : ∃ t, ordN x y = t := ⟨_, rfl⟩
  have q7 : decide (t < 0) = false := by rw [← ht]; exact ord_ge HLE.out
  rw [ht]
  clear ht
  go_wp2_with fail
  have K2 : Hid (∀ w1 x y z, Below W.heap.size W w1 → ∀ w', ((w1.setCell ⟨w.heap.size + 1 + 1, 0, none⟩ x).setCell ⟨w.heap.size + 1 + 1, 1, none⟩ y).setCell ⟨w.heap.size + 1 + 1, 2, none⟩ z = w' → w'.cell? ⟨w.heap.size, 0, none⟩ = some (.bool m) ∧ w'.cell? ⟨w.heap.size, 1, none⟩ = some (.slice a1 k1 c1) ∧ w'.cell? ⟨w.heap.size, 2, none⟩ = some (.slice a2 k2 c2) ∧ w'.cell? ⟨w.heap.size + 1, 0, none⟩ = some (.bool m2) ∧ w'.cell? ⟨w.heap.size + 1, 1, none⟩ = some (.slice a3 k3 c3) ∧ w'.cell? ⟨w.heap.size + 1, 2, none⟩ = some (.slice a4 k4 c4)) := by
   rintro w1 x y z hb _ rfl
   have Z0 := (((HY0.out.call hb).other (a := ⟨w.heap.size + 1 + 1, 0, none⟩) (by simp; omega) x).other (a := ⟨w.heap.size + 1 + 1, 1, none⟩) (by simp; omega) y).other (a := ⟨w.heap.size + 1 + 1, 2, none⟩) (by simp; omega) z
   have Z1 := (((HY1.out.call hb).other (a := ⟨w.heap.size + 1 + 1, 0, none⟩) (by simp) x).other (a := ⟨w.heap.size + 1 + 1, 1, none⟩) (by simp) y).other (a := ⟨w.heap.size + 1 + 1, 2, none⟩) (by simp) z
   exact ⟨Z0.cell 0, Z0.cell 1, Z0.cell 2, Z1.cell 0, Z1.cell 1, Z1.cell 2⟩
  go_region_held3 (fun w' => w'.cell? ⟨w.heap.size, 0, none⟩ = some (.bool m) ∧ w'.cell? ⟨w.heap.size, 1, none⟩ = some (.slice a1 k1 c1) ∧ w'.cell? ⟨w.heap.size, 2, none⟩ = some (.slice a2 k2 c2) ∧ w'.cell? ⟨w.heap.size + 1, 0, none⟩ = some (.bool m2) ∧ w'.cell? ⟨w.heap.size + 1, 1, none⟩ = some (.slice a3 k3 c3) ∧ w'.cell? ⟨w.heap.size + 1, 2, none⟩ = some (.slice a4 k4 c4))
   (first
    | exact K.out _ (by first | exact bb4.out.drew | exact below_drewN bb4.out _)
    | exact K2.out _ _ _ _ bb6.out _ rfl
    | exact K.out _ bb6.out
    | exact K.out _ bb5.out)
   (first
    | (go_at_call 135; refine (r1_Minus _ _ _ x y (W1.out.call (by first | exact (Below.refl _ _).drew | exact below_drewN (Below.refl _ _) _ | exact Below.refl _ _)) (W2.out.call (by first | exact (Below.refl _ _).drew | exact below_drewN (Below.refl _ _) _ | exact Below.refl _ _)) HLE.out L1.out).mono ?_; rintro e w5 ⟨⟨v5, rfl, hv5⟩, hb5⟩; have bb5 := hid (bnext (by first | exact bb4.out.drew | exact below_drewN bb4.out _ | exact bb4.out) hb5); have V5 := hid hv5; have Z5 := hid ((W3.out.call (Below.refl _ _).drew).call hb5))
    | (go_at_call 86; refine (r2_Reduce _ _ _ _ (x - y) z V5.out Z5.out hD.out LS.out L3.out).mono ?_; rintro e w6 ⟨⟨v6, rfl, hv6⟩, hb6⟩; obtain ⟨N6, D6, rfl, hN6, hD6⟩ := hv6.ex; have bb6 := hid (bnext bb5.out hb6); obtain ⟨a5, c5, rfl, _⟩ := hN6.openI; obtain ⟨a6, c6, rfl, _⟩ := hD6.openI; have HN6 := hid hN6; have HD6 := hid hD6; have Z := hid (HY2.out.call bb6.out); have t0 := Z.out.cell 0; have t1 := Z.out.cell 1; have t2 := Z.out.cell 2; have t3 := Z.out.free 0; have t4 := Z.out.free 1; have t5 := Z.out.free 2; clear hv6 hN6 hD6))
  go_wp2_with fail
  obtain ⟨s1, s2⟩ := set3 Z.out (decide ((qmk m (x - y) z).num < 0)) a5 a6 (limbs (qmk m (x - y) z).num.natAbs).length c5 (limbs (qmk m (x - y) z).den).length c6
  have f0 := s2.cell 0
  have f1 := s2.cell 1
  have f2 := s2.cell 2
  simp at f0 f1 f2
  refine bodyPost_ret (v := .agg #[.bool (decide ((qmk m (x - y) z).num < 0)), .slice a5 (limbs (qmk m (x - y) z).num.natAbs).length c5, .slice a6 (limbs (qmk m (x - y) z).den).length c6]) (by simp [results, Tryz.results88, go_sem, f0, f1, f2]) rfl ⟨⟨_, rfl, ⟨_, _, rfl, s1 _ _ _ HN6.out, s1 _ _ _ HD6.out⟩⟩, ?_⟩
  exact (((HX0.out.trans (bb6.out.mono (Nat.le_trans (Nat.le_refl _) HX0.out.size))).setCell (by simp; omega) _).setCell (by simp; omega) _).setCell (by simp; omega) _
theorem r2_Plus (w : World) (v u : Value) (p q : Rat) (hp : IsQ .i64 w v p) (hq : IsQ .i64 w u q)
 (h1 : (limbs p.num.natAbs).length ≤ 100000) (h2 : (limbs p.den).length ≤ 100000) (h3 : (limbs q.num.natAbs).length ≤ 100000) (h4 : (limbs q.den).length ≤ 100000) :
 Calls Tryz.prog 88 #[v, u] w fun e w' => RetQ .i64 (p + q) e w' ∧ Below w.heap.size w w' := by
 obtain ⟨N1, D1, rfl, hn1, hd1⟩ := hp.ex
 obtain ⟨N2, D2, rfl, hn2, hd2⟩ := hq.ex
 have he := q_add p q
 have hw := fun m s key => r2_Plus_walk w (decide (p.num < 0)) (decide (q.num < 0)) m N1 D1 N2 D2 _ _ _ _ s hn1 hd1 hn2 hd2 h1 h2 h3 h4 p.den_pos q.den_pos key
 rw [he]
 generalize decide (p.num < 0) = m1 at *
 generalize decide (q.num < 0) = m2 at *
 by_cases hm : m1 = m2
 ·subst hm
  rw [sgn_same]
  exact hw m1 _ (.inl ⟨rfl, rfl, rfl⟩)
 ·have hm' : (m1 == m2) = false := by simpa using hm
  rcases Nat.lt_or_ge (p.num.natAbs * q.den) (q.num.natAbs * p.den) with hl | hl
  ·rw [sgn_less hm hl]
   exact hw m2 _ (.inr (.inl ⟨hm', hl, rfl, rfl⟩))
  ·rw [sgn_more hm hl]
   exact hw m1 _ (.inr (.inr ⟨hm', hl, rfl, rfl⟩))
theorem r2_Times (w : World) (v u : Value) (p q : Rat) (hp : IsQ .i64 w v p) (hq : IsQ .i64 w u q)
 (h1 : (limbs p.num.natAbs).length ≤ 100000) (h2 : (limbs p.den).length ≤ 100000) (h3 : (limbs q.num.natAbs).length ≤ 100000) (h4 : (limbs q.den).length ≤ 100000) :
 Calls Tryz.prog 45 #[v, u] w fun e w' => RetQ .i64 (p * q) e w' ∧ Below w.heap.size w w' := by
 have HQ := hid (qmk_mul p q)
 rw [← HQ.out]
 have hD := hid (Nat.mul_pos p.den_pos q.den_pos)
 obtain ⟨N1, D1, rfl, hn1, hd1⟩ := hp.ex
 obtain ⟨N2, D2, rfl, hn2, hd2⟩ := hq.ex
 clear hp hq HQ
 generalize decide (p.num < 0) = m1 at *
 generalize decide (q.num < 0) = m2 at *
 generalize p.num.natAbs = n1 at *
 generalize q.num.natAbs = n2 at *
 generalize p.den = d1 at *
 generalize q.den = d2 at *
 have HN1 := hid hn1; have HD1 := hid hd1; have HN2 := hid hn2; have HD2 := hid hd2
 have L1 := hid (Nat.le_trans (limbs_mul h1 h3) (show 100000 + 100000 ≤ 1000000 by omega))
 have L2 := hid (Nat.le_trans (limbs_mul h2 h4) (show 100000 + 100000 ≤ 1000000 by omega))
 have H1 := hid (Nat.le_trans h1 (show 100000 ≤ 1000000 by omega))
 have H2 := hid (Nat.le_trans h2 (show 100000 ≤ 1000000 by omega))
 have H3 := hid (Nat.le_trans h3 (show 100000 ≤ 1000000 by omega))
 have H4 := hid (Nat.le_trans h4 (show 100000 ≤ 1000000 by omega))
 clear h1 h2 h3 h4
 obtain ⟨a1, c1, rfl, _⟩ := hn1.openI
 obtain ⟨a2, c2, rfl, _⟩ := hd1.openI
 obtain ⟨a3, c3, rfl, _⟩ := hn2.openI
 obtain ⟨a4, c4, rfl, _⟩ := hd2.openI
 clear hn1 hd1 hn2 hd2
 go_enter Tryz.func45, Tryz.ntmps45
 go_wp2_with fail
 obtain ⟨W, hW⟩ : ∃ W, ((w.alloc (.cells #[.bool m1, .slice a1 (limbs n1).length c1, .slice a2 (limbs d1).length c2] 83)).alloc (.cells #[.bool m2, .slice a3 (limbs n2).length c3, .slice a4 (limbs d2).length c4] 83)).alloc (.cells #[.bool false, .slice none 0 0, .slice none 0 0] 83) = W := ⟨_, rfl⟩
 rw [hW]
 have X0 : Below w.heap.size w W := by rw [← hW]; exact (((Below.refl _ _).alloc (Nat.le_refl _) _).alloc (by simp) _).alloc (by simp; omega) _
 have Y0 : Blk W w.heap.size #[.bool m1, .slice a1 (limbs n1).length c1, .slice a2 (limbs d1).length c2] 83 := by rw [← hW]; exact ((Blk.new w _ _).alloc _).alloc _
 have Y1 : Blk W (w.heap.size + 1) #[.bool m2, .slice a3 (limbs n2).length c3, .slice a4 (limbs d2).length c4] 83 := by rw [← hW]; exact (Blk.made (w.alloc _) _ _ (by simp)).alloc _
 have Y2 : Blk W (w.heap.size + 1 + 1) #[.bool false, .slice none 0 0, .slice none 0 0] 83 := by rw [← hW]; exact Blk.made ((w.alloc _).alloc _) _ _ (by simp)
 have K0 : ∀ w', Blk w' w.heap.size #[.bool m1, .slice a1 (limbs n1).length c1, .slice a2 (limbs d1).length c2] 83 → Blk w' (w.heap.size + 1) #[.bool m2, .slice a3 (limbs n2).length c3, .slice a4 (limbs d2).length c4] 83 →
  w'.cell? ⟨w.heap.size, 0, none⟩ = some (.bool m1) ∧ w'.cell? ⟨w.heap.size, 1, none⟩ = some (.slice a1 (limbs n1).length c1) ∧ w'.cell? ⟨w.heap.size, 2, none⟩ = some (.slice a2 (limbs d1).length c2) ∧
  w'.cell? ⟨w.heap.size + 1, 0, none⟩ = some (.bool m2) ∧ w'.cell? ⟨w.heap.size + 1, 1, none⟩ = some (.slice a3 (limbs n2).length c3) ∧ w'.cell? ⟨w.heap.size + 1, 2, none⟩ = some (.slice a4 (limbs d2).length c4) :=
  fun w' y0 y1 => ⟨y0.cell 0, y0.cell 1, y0.cell 2, y1.cell 0, y1.cell 1, y1.cell 2⟩
 have K : Hid (∀ w', Below W.heap.size W w' → w'.cell? ⟨w.heap.size, 0, none⟩ = some (.bool m1) ∧ w'.cell? ⟨w.heap.size, 1, none⟩ = some (.slice a1 (limbs n1).length c1) ∧ w'.cell? ⟨w.heap.size, 2, none⟩ = some (.slice a2 (limbs d1).length c2) ∧
  w'.cell? ⟨w.heap.size + 1, 0, none⟩ = some (.bool m2) ∧ w'.cell? ⟨w.heap.size + 1, 1, none⟩ = some (.slice a3 (limbs n2).length c3) ∧ w'.cell? ⟨w.heap.size + 1, 2, none⟩ = some (.slice a4 (limbs d2).length c4)) := fun w' hb => K0 w' (Y0.call hb) (Y1.call hb)
 have K2 : Hid (∀ w1 x y z, Below W.heap.size W w1 → ∀ w', ((w1.setCell ⟨w.heap.size + 1 + 1, 0, none⟩ x).setCell ⟨w.heap.size + 1 + 1, 1, none⟩ y).setCell ⟨w.heap.size + 1 + 1, 2, none⟩ z = w' → w'.cell? ⟨w.heap.size, 0, none⟩ = some (.bool m1) ∧ w'.cell? ⟨w.heap.size, 1, none⟩ = some (.slice a1 (limbs n1).length c1) ∧ w'.cell? ⟨w.heap.size, 2, none⟩ = some (.slice a2 (limbs d1).length c2) ∧
  w'.cell? ⟨w.heap.size + 1, 0, none⟩ = some (.bool m2) ∧ w'.cell? ⟨w.heap.size + 1, 1, none⟩ = some (.slice a3 (limbs n2).length c3) ∧ w'.cell? ⟨w.heap.size + 1, 2, none⟩ = some (.slice a4 (limbs d2).length c4)) := by
  rintro w1 x y z hb _ rfl
  exact K0 _ ((((Y0.call hb).other (by simp; omega) _).other (by simp; omega) _).other (by simp; omega) _) ((((Y1.call hb).other (by simp) _).other (by simp) _).other (by simp) _)
 have HY2 := hid Y2; have HX0 := hid X0
 obtain ⟨k0, k1, k2, k3, k4, k5⟩ := K W (Below.refl _ _)
 clear K0
 clear Y0 Y1 Y2 X0 hW
 have XN1 := hid (HN1.out.call HX0.out); have XD1 := hid (HD1.out.call HX0.out); have XN2 := hid (HN2.out.call HX0.out); have XD2 := hid (HD2.out.call HX0.out)
 go_region_held3 (fun w' => w'.cell? ⟨w.heap.size, 0, none⟩ = some (.bool m1) ∧ w'.cell? ⟨w.heap.size, 1, none⟩ = some (.slice a1 (limbs n1).length c1) ∧ w'.cell? ⟨w.heap.size, 2, none⟩ = some (.slice a2 (limbs d1).length c2) ∧
  w'.cell? ⟨w.heap.size + 1, 0, none⟩ = some (.bool m2) ∧ w'.cell? ⟨w.heap.size + 1, 1, none⟩ = some (.slice a3 (limbs n2).length c3) ∧ w'.cell? ⟨w.heap.size + 1, 2, none⟩ = some (.slice a4 (limbs d2).length c4))
  (first
   | exact K.out _ (Below.refl _ _).drew
   | exact K2.out _ _ _ _ B3.out _ rfl
   | exact K.out _ B3.out
   | exact K.out _ B2.out
   | exact K.out _ B1.out)
  (first
   | (go_at_call_of 87 (Value.slice a1 (limbs n1).length c1); refine (r1_Times _ _ _ n1 n2 (XN1.out.call (by first | exact B2.out | exact (Below.refl _ _).drew)) (XN2.out.call (by first | exact B2.out | exact (Below.refl _ _).drew)) H1.out H3.out).mono ?_; rintro e w1 ⟨⟨v1, rfl, hv1⟩, hb1⟩; have B1 := hid (bnext (by first | exact B2.out | exact (Below.refl _ _).drew) hb1))
   | (go_at_call_of 87 (Value.slice a2 (limbs d1).length c2); refine (r1_Times _ _ _ d1 d2 (XD1.out.call (by first | exact B1.out | exact (Below.refl _ _).drew)) (XD2.out.call (by first | exact B1.out | exact (Below.refl _ _).drew)) H2.out H4.out).mono ?_; rintro e w2 ⟨⟨v2, rfl, hv2⟩, hb2⟩; have B2 := hid (bnext (by first | exact B1.out | exact (Below.refl _ _).drew) hb2))
   | (go_at_call 86; refine (r2_Reduce _ _ _ _ (n1 * n2) (d1 * d2) (by first | exact hv1 | exact hv1.call hb2) (by first | exact hv2 | exact hv2.call hb1) hD.out L1.out L2.out).mono ?_; rintro e w3 ⟨⟨v3, rfl, hv3⟩, hb3⟩; obtain ⟨N3, D3, rfl, hN3, hD3⟩ := hv3.ex; have B3 := hid (bnext (by first | exact B2.out | exact B1.out) hb3); obtain ⟨a5, c5, rfl, _⟩ := hN3.openI; obtain ⟨a6, c6, rfl, _⟩ := hD3.openI; have HN3 := hid hN3; have HD3 := hid hD3; have Z := hid (HY2.out.call B3.out); have t0 := Z.out.cell 0; have t1 := Z.out.cell 1; have t2 := Z.out.cell 2; have t3 := Z.out.free 0; have t4 := Z.out.free 1; have t5 := Z.out.free 2; clear hv3 hN3 hD3))
 have hbn : (!(m1 == m2)) = (m1 != m2) := rfl
 rw [hbn] at *
 go_wp2_with fail
 obtain ⟨s1, s2⟩ := set3 Z.out (decide ((qmk (m1 != m2) (n1 * n2) (d1 * d2)).num < 0)) a5 a6 (limbs (qmk (m1 != m2) (n1 * n2) (d1 * d2)).num.natAbs).length c5 (limbs (qmk (m1 != m2) (n1 * n2) (d1 * d2)).den).length c6
 have f0 := s2.cell 0
 have f1 := s2.cell 1
 have f2 := s2.cell 2
 simp at f0 f1 f2
 refine bodyPost_ret (v := .agg #[.bool (decide ((qmk (m1 != m2) (n1 * n2) (d1 * d2)).num < 0)), .slice a5 (limbs (qmk (m1 != m2) (n1 * n2) (d1 * d2)).num.natAbs).length c5, .slice a6 (limbs (qmk (m1 != m2) (n1 * n2) (d1 * d2)).den).length c6]) (by simp [results, Tryz.results45, go_sem, f0, f1, f2]) rfl ⟨⟨_, rfl, ⟨_, _, rfl, s1 _ _ _ HN3.out, s1 _ _ _ HD3.out⟩⟩, ?_⟩
 exact (((HX0.out.trans (B3.out.mono (Nat.le_trans (Nat.le_refl _) HX0.out.size))).setCell (by simp; omega) _).setCell (by simp; omega) _).setCell (by simp; omega) _
open Go.Lib (decDigits nDigits)
def Qv (v : Value) : Prop := ∃ (m : Bool) (a : Option Addr) (n c : Nat) (a' : Option Addr) (n' c' : Nat), v = .agg #[.bool m, .slice a n c, .slice a' n' c']
theorem IsQ.qv {k : IntKind} {w : World} {v : Value} {q : Rat} (h : IsQ k w v q) : Qv v := by
 obtain ⟨N, D, rfl, h1, h2⟩ := h.ex
 obtain ⟨a1, c1, rfl, _⟩ := h1.openI
 obtain ⟨a2, c2, rfl, _⟩ := h2.openI
 exact ⟨_, _, _, _, _, _, _, rfl⟩
theorem RetQE.open {s : ByteArray} {e : Ending} {w' : World} (h : RetQE s e w') : ∃ (m : Bool) (a : Option Addr) (n c : Nat) (a' : Option Addr) (n' c' : Nat), e = .returned (.tuple #[.agg #[.bool m, .slice a n c, .slice a' n' c'], .int .i64 (qE s)]) ∧ (qE s = 0 → IsQ .i64 w' (.agg #[.bool m, .slice a n c, .slice a' n' c']) (vQ s)) ∧ (qE s ≠ 0 → m = false ∧ a = none ∧ n = 0 ∧ c = 0 ∧ a' = none ∧ n' = 0 ∧ c' = 0) := by
 obtain ⟨v, rfl, h1, h2⟩ := h
 by_cases h0 : qE s = 0
 ·obtain ⟨m, a, n, c, a', n', c', rfl⟩ := (h1 h0).qv
  exact ⟨m, a, n, c, a', n', c', rfl, h1, fun h => absurd h0 h⟩
 ·obtain rfl := h2 h0
  exact ⟨_, _, _, _, _, _, _, rfl, h1, fun _ => ⟨rfl, rfl, rfl, rfl, rfl, rfl, rfl⟩⟩
theorem IsQ.keep {k : IntKind} {w w' : World} {v : Value} {q : Rat} (h : IsQ k w v q) (f : ∀ k v x, IsN k w v x → IsN k w' v x) : IsQ k w' v q := by
 obtain ⟨N, D, rfl, h1, h2⟩ := h.ex
 exact ⟨N, D, rfl, f _ _ _ h1, f _ _ _ h2⟩
theorem IsN.drew {k : IntKind} {w : World} {v : Value} {n : Nat} (h : IsN k w v n) : IsN k w.drew v n := Row.drew h
def RetTwo (s t : ByteArray) (e : Ending) (w' : World) : Prop := ∃ (m : Bool) (a : Option Addr) (n c : Nat) (a' : Option Addr) (n' c' : Nat) (m2 : Bool) (b : Option Addr) (j d : Nat) (b' : Option Addr) (j' d' : Nat),
 e = .returned (.tuple #[.agg #[.bool m, .slice a n c, .slice a' n' c'], .agg #[.bool m2, .slice b j d, .slice b' j' d'], .int .i64 (if qE s = 0 then qE t else qE s)]) ∧
 (qE s = 0 → qE t = 0 → IsQ .i64 w' (.agg #[.bool m, .slice a n c, .slice a' n' c']) (vQ s) ∧ IsQ .i64 w' (.agg #[.bool m2, .slice b j d, .slice b' j' d']) (vQ t))
theorem r2_two (w : World) (s t : ByteArray) (hs : s.size ≤ 1000000) (ht : t.size ≤ 1000000) :
 Calls Tryz.prog 43 #[.string s, .string t] w fun e w' => RetTwo s t e w' ∧ Below w.heap.size w w' := by
 have R1 := fun V => hid (r2_Read V s hs)
 have R2 := fun V => hid (r2_Read V t ht)
 have t0 := hid (Blk.new w #[.bool false, .slice none 0 0, .slice none 0 0] 83)
 have t1 := hid ((Below.refl w.heap.size w).alloc (Nat.le_refl _) (.cells #[.bool false, .slice none 0 0, .slice none 0 0] 83))
 have u0 := hid ((Blk.new w #[.bool false, .slice none 0 0, .slice none 0 0] 83).alloc (.cells #[.bool false, .slice none 0 0, .slice none 0 0] 83))
 have u1 := hid (Blk.made (w.alloc (.cells #[.bool false, .slice none 0 0, .slice none 0 0] 83)) #[.bool false, .slice none 0 0, .slice none 0 0] 83 (n := w.heap.size + 1) (by simp))
 have u2 := hid (t1.out.alloc (by simp) (.cells #[.bool false, .slice none 0 0, .slice none 0 0] 83))
 clear hs ht t0 t1
 go_enter Tryz.func43, Tryz.ntmps43
 go_wp2_with fail
 refine (R1 _).out.mono ?_; rintro e w1 ⟨hr1, hb1⟩
 obtain ⟨m, a, n, c, a', n', c', rfl, h1, h2⟩ := hr1.open
 have v0 := hid (u0.out.call hb1); have v1 := hid (u1.out.call hb1); have v2 := hid (bnext u2.out hb1)
 have l1 := v1.out.lt
 have n1 : (w1.heap.size = w.heap.size) = False := by simp; omega
 have n2 : (w.heap.size = w1.heap.size) = False := by simp; omega
 have n3 : (w1.heap.size = w.heap.size + 1) = False := by simp; omega
 have n4 : (w.heap.size + 1 = w1.heap.size) = False := by simp; omega
 obtain ⟨x, hx⟩ : ∃ x, qE s = x := ⟨_, rfl⟩
 have HXX := hid hx
 by_cases h0 : x = 0
 ·subst h0
  rw [hx]
  have Q1 := hid (h1 hx)
  clear h1 h2 hr1 hb1 R1 hx
  have X7 := hid (Blk.new w1 #[.bool m, .slice a n c, .slice a' n' c'] 83)
  have b7 := hid ((Below.refl w1.heap.size w1).alloc (Nat.le_refl _) (.cells #[.bool m, .slice a n c, .slice a' n' c'] 83))
  have x0 := hid (v0.out.call b7.out); have x1 := hid (v1.out.call b7.out); have x2 := hid (bnext v2.out b7.out); have Q2 := hid (Q1.out.call b7.out)
  clear v0 v1 v2 Q1 b7
  go_wp2_with fail
  refine (R2 _).out.mono ?_; rintro e w2 ⟨hr2, hb2⟩
  obtain ⟨m2, b, j, d, b', j', d', rfl, k1, k2⟩ := hr2.open
  have y0 := hid (x0.out.call hb2); have y1 := hid (x1.out.call hb2); have y2 := hid (bnext x2.out hb2); have y7 := hid (X7.out.call hb2); have Q3 := hid (Q2.out.call hb2)
  have K1 := hid k1
  clear x0 x1 x2 X7 Q2 hb2 hr2 k1 k2 R2
  have l2 := y7.out.lt
  have n5 : (w2.heap.size = w.heap.size) = False := by simp; omega
  have n6 : (w.heap.size = w2.heap.size) = False := by simp; omega
  have n7 : (w2.heap.size = w.heap.size + 1) = False := by simp; omega
  have n8 : (w.heap.size + 1 = w2.heap.size) = False := by simp; omega
  clear l1 l2
  obtain ⟨z, hz⟩ : ∃ z, qE t = z := ⟨_, rfl⟩
  have HZ := hid hz
  rw [hz]
  clear hz
  have X9 := hid (Blk.new w2 #[.bool m2, .slice b j d, .slice b' j' d'] 83)
  have b9 := hid ((Below.refl w2.heap.size w2).alloc (Nat.le_refl _) (.cells #[.bool m2, .slice b j d, .slice b' j' d'] 83))
  have z0 := hid (y0.out.call b9.out); have z1 := hid (y1.out.call b9.out); have z2 := hid (bnext y2.out b9.out); have z7 := hid (y7.out.call b9.out); have Q4 := hid (Q3.out.call b9.out)
  have K2 := fun h => hid ((K1.out h).call b9.out)
  clear y0 y1 y2 y7 Q3 b9 K1
  have HH1 := z0.out.cell 0
  have HH2 := z0.out.cell 1
  have HH3 := z0.out.cell 2
  have HH4 := z0.out.free 0
  have HH5 := z0.out.free 1
  have HH6 := z0.out.free 2
  have KK1 := z1.out.cell 0
  have KK2 := z1.out.cell 1
  have KK3 := z1.out.cell 2
  have KK4 := z1.out.free 0
  have KK5 := z1.out.free 1
  have KK6 := z1.out.free 2
  have JJ1 := z7.out.cell 0
  have JJ2 := z7.out.cell 1
  have JJ3 := z7.out.cell 2
  simp at HH1 HH2 HH3 KK1 KK2 KK3 JJ1 JJ2 JJ3
  have II1 := X9.out.cell 0
  have II2 := X9.out.cell 1
  have II3 := X9.out.cell 2
  simp at II1 II2 II3
  go_wp2_with fail
  go_region
  obtain ⟨p1, p2⟩ := set3 z0.out m a a' n c n' c'
  have r1 := ((z1.out.other (a := ⟨w.heap.size, 0, none⟩) (by simp) (.bool m)).other (a := ⟨w.heap.size, 1, none⟩) (by simp) (.slice a n c)).other (a := ⟨w.heap.size, 2, none⟩) (by simp) (.slice a' n' c')
  obtain ⟨p3, p4⟩ := set3 r1 m2 b b' j d j' d'
  have p5 := ((p2.other (a := ⟨w.heap.size + 1, 0, none⟩) (by simp) (.bool m2)).other (a := ⟨w.heap.size + 1, 1, none⟩) (by simp) (.slice b j d)).other (a := ⟨w.heap.size + 1, 2, none⟩) (by simp) (.slice b' j' d')
  have f0 := p5.drew.cell 0
  have f1 := p5.drew.cell 1
  have f2 := p5.drew.cell 2
  have g0 := p4.drew.cell 0
  have g1 := p4.drew.cell 1
  have g2 := p4.drew.cell 2
  simp at f0 f1 f2 g0 g1 g2
  go_wp2_with fail
  refine bodyPost_ret (v := .tuple #[.agg #[.bool m, .slice a n c, .slice a' n' c'], .agg #[.bool m2, .slice b j d, .slice b' j' d'], .int .i64 z]) (by simp [results, Tryz.results43, go_sem, f0, f1, f2, g0, g1, g2]) rfl ⟨⟨m, a, n, c, a', n', c', m2, b, j, d, b', j', d', by rw [if_pos HXX.out, HZ.out], fun h1 h2 => ⟨(Q4.out.keep fun k v x h => (p3 _ _ _ (p1 _ _ _ h)).drew), ((K2 h2).out.keep fun k v x h => (p3 _ _ _ (p1 _ _ _ h)).drew)⟩⟩, ?_⟩
  exact ((((((z2.out.setCell (Nat.le_refl _) _).setCell (Nat.le_refl _) _).setCell (Nat.le_refl _) _).setCell (Nat.le_succ _) _).setCell (Nat.le_succ _) _).setCell (Nat.le_succ _) _).drew
 ·rw [hx]
  have q0 : (x != 0) = true := by simpa using h0
  obtain ⟨rfl, rfl, rfl, rfl, rfl, rfl, rfl⟩ := h2 (by rw [hx]; exact h0)
  have H0 := hid h0
  clear h1 h2 hr1 hb1 R1 R2 hx h0
  have X7 := hid (Blk.new w1 #[.bool false, .slice none 0 0, .slice none 0 0] 83)
  have b7 := hid ((Below.refl w1.heap.size w1).alloc (Nat.le_refl _) (.cells #[.bool false, .slice none 0 0, .slice none 0 0] 83))
  have x0 := hid (v0.out.call b7.out); have x1 := hid (v1.out.call b7.out); have x2 := hid (bnext v2.out b7.out)
  clear v0 v1 v2 b7
  have HH1 := x0.out.cell 0
  have HH2 := x0.out.cell 1
  have HH3 := x0.out.cell 2
  have HH4 := x0.out.free 0
  have HH5 := x0.out.free 1
  have HH6 := x0.out.free 2
  have KK1 := x1.out.cell 0
  have KK2 := x1.out.cell 1
  have KK3 := x1.out.cell 2
  have KK4 := x1.out.free 0
  have KK5 := x1.out.free 1
  have KK6 := x1.out.free 2
  have JJ1 := X7.out.cell 0
  have JJ2 := X7.out.cell 1
  have JJ3 := X7.out.cell 2
  simp at HH1 HH2 HH3 KK1 KK2 KK3 JJ1 JJ2 JJ3
  go_wp2_with fail
  go_region
  obtain ⟨p1, p2⟩ := set3 x0.out false none none 0 0 0 0
  have r1 := ((x1.out.other (a := ⟨w.heap.size, 0, none⟩) (by simp) (.bool false)).other (a := ⟨w.heap.size, 1, none⟩) (by simp) (.slice none 0 0)).other (a := ⟨w.heap.size, 2, none⟩) (by simp) (.slice none 0 0)
  obtain ⟨p3, p4⟩ := set3 r1 false none none 0 0 0 0
  have p5 := ((p2.other (a := ⟨w.heap.size + 1, 0, none⟩) (by simp) (.bool false)).other (a := ⟨w.heap.size + 1, 1, none⟩) (by simp) (.slice none 0 0)).other (a := ⟨w.heap.size + 1, 2, none⟩) (by simp) (.slice none 0 0)
  have f0 := p5.drew.cell 0
  have f1 := p5.drew.cell 1
  have f2 := p5.drew.cell 2
  have g0 := p4.drew.cell 0
  have g1 := p4.drew.cell 1
  have g2 := p4.drew.cell 2
  simp at f0 f1 f2 g0 g1 g2
  go_wp2_with fail
  refine bodyPost_ret (v := .tuple #[.agg #[.bool false, .slice none 0 0, .slice none 0 0], .agg #[.bool false, .slice none 0 0, .slice none 0 0], .int .i64 x]) (by simp [results, Tryz.results43, go_sem, f0, f1, f2, g0, g1, g2]) rfl ⟨⟨false, none, 0, 0, none, 0, 0, false, none, 0, 0, none, 0, 0, by rw [if_neg (by rw [HXX.out]; exact H0.out), HXX.out], fun h1 => absurd (HXX.out.symm.trans h1) H0.out⟩, ?_⟩
  exact ((((((x2.out.setCell (Nat.le_refl _) _).setCell (Nat.le_refl _) _).setCell (Nat.le_refl _) _).setCell (Nat.le_succ _) _).setCell (Nat.le_succ _) _).setCell (Nat.le_succ _) _).drew
theorem dig_of {q : Rat} {K : Nat} (h1 : nDigits q.num.natAbs ≤ K) (h2 : nDigits q.den ≤ K) : Dig K q :=
 ⟨Nat.lt_of_lt_of_le (Go.Lib.lt_pow_nDigits _) (Nat.pow_le_pow_right (by omega) h1), Nat.lt_of_lt_of_le (Go.Lib.lt_pow_nDigits _) (Nat.pow_le_pow_right (by omega) h2)⟩
theorem dig_of_fits {q : Rat} (h : ¬ ovQ q) : Dig 4000 q := by
 unfold ovQ at h
 exact dig_of (by omega) (by omega)
theorem Dig.limbs {K L : Nat} {q : Rat} (h : Dig K q) (h0 : 0 < K) (hl : K ≤ 9 * L) : (limbs q.num.natAbs).length ≤ L ∧ (limbs q.den).length ≤ L :=
 ⟨limbs_digits (Nat.le_trans (nDigits_le h0 h.n) hl), limbs_digits (Nat.le_trans (nDigits_le h0 h.d) hl)⟩
def OpOk (F : Nat) (f : Rat → Rat → Rat) : Prop := ∀ (w : World) (v u : Value) (p q : Rat), IsQ .i64 w v p → IsQ .i64 w u q → Dig 4000 p → Dig 4000 q →
 Calls Tryz.prog F #[v, u] w fun e w' => RetQ .i64 (f p q) e w' ∧ Below w.heap.size w w'
theorem op_plus : OpOk 88 (· + ·) := fun w v u p q hp hq h1 h2 => by
 have l1 := h1.limbs (L := 100000) (by omega) (by omega)
 have l2 := h2.limbs (L := 100000) (by omega) (by omega)
 exact r2_Plus w v u p q hp hq l1.1 l1.2 l2.1 l2.2
theorem op_times : OpOk 45 (· * ·) := fun w v u p q hp hq h1 h2 => by
 have l1 := h1.limbs (L := 100000) (by omega) (by omega)
 have l2 := h2.limbs (L := 100000) (by omega) (by omega)
 exact r2_Times w v u p q hp hq l1.1 l1.2 l2.1 l2.2
theorem r2_Add (w : World) (s t : ByteArray) (hs : s.size ≤ 1000000) (ht : t.size ≤ 1000000) :
 Calls Tryz.prog 49 #[.string s, .string t] w fun e w' => e = .returned (.tuple #[.string (op2B (· + ·) s t), .int .i64 (op2E (· + ·) s t)]) ∧ Below w.heap.size w w' := by
 have R1 := fun V => hid (r2_two V s t hs ht)
 clear hs ht
 by_cases h0 : qE s = 0 ∧ qE t = 0
 ·have eB : op2B (· + ·) s t = outB (vQ s + vQ t) := by rw [op2B, if_pos h0]
  have eE : op2E (· + ·) s t = outE (vQ s + vQ t) := by rw [op2E, if_pos h0.1, if_pos h0.2]
  rw [eB, eE]
  have ds := dig_of_fits (vQ_fits h0.1)
  have dt := dig_of_fits (vQ_fits h0.2)
  have dl := hid ((dig_add ds dt).limbs (L := 1000000) (by omega) (by omega))
  have HO := fun V v u hp hq => hid (op_plus V v u (vQ s) (vQ t) hp hq ds dt)
  have HW := fun V v h => hid (r2_Write V v (vQ s + vQ t) h dl.out.1 dl.out.2)
  obtain ⟨oB, hB⟩ : ∃ x, outB (vQ s + vQ t) = x := ⟨_, rfl⟩
  obtain ⟨oE, hE⟩ : ∃ x, outE (vQ s + vQ t) = x := ⟨_, rfl⟩
  rw [hB, hE] at HW
  rw [hB, hE]
  have H0 := hid h0
  clear eB eE ds dt dl hB hE h0
  go_enter Tryz.func49, Tryz.ntmps49
  go_wp2_with fail
  refine (R1 _).out.mono ?_; rintro e w1 ⟨⟨m, a, n, c, a', n', c', m2, b, j, d, b', j', d', rfl, hq⟩, hb1⟩
  obtain ⟨q1, q2⟩ := hq H0.out.1 H0.out.2
  rw [if_pos H0.out.1, H0.out.2]
  have b0 := ((Below.refl w1.heap.size w1).alloc (Nat.le_refl _) (.cells #[.bool m, .slice a n c, .slice a' n' c'] 83)).alloc (by simp) (.cells #[.bool m2, .slice b j d, .slice b' j' d'] 83)
  have y2 := hid (bnext hb1 b0)
  have H1 := HO _ _ _ (q1.call b0) (q2.call b0)
  clear hb1 q1 q2 hq b0 HO R1
  go_wp2_with fail
  refine H1.out.mono ?_; rintro e w2 ⟨⟨v, rfl, hv⟩, hb2⟩
  have y3 := hid (bnext y2.out hb2)
  have H2 := HW _ _ hv
  obtain ⟨m3, a3, n3, c3, a4, n4, c4, rfl⟩ := hv.qv
  clear hv hb2 HW H1
  go_wp2_with fail
  refine H2.out.mono ?_; rintro e w3 ⟨rfl, hb3⟩
  have y4 := hid (bnext y3.out hb3)
  clear hb3 H2
  go_wp2_with fail
  go_ret2
  exact ⟨rfl, y4.out⟩
 ·have n0 : (if qE s = 0 then qE t else qE s) ≠ 0 := by
   split
   ·rename_i h; exact fun e => h0 ⟨h, e⟩
   ·rename_i h; exact h
  have eB : op2B (· + ·) s t = ⟨#[]⟩ := by rw [op2B, if_neg h0]
  have eE : op2E (· + ·) s t = if qE s = 0 then qE t else qE s := by
   rw [op2E]
   split
   ·rename_i h; rw [if_neg (fun e => h0 ⟨h, e⟩)]
   ·rfl
  rw [eB, eE]
  obtain ⟨x, hx⟩ : ∃ x, (if qE s = 0 then qE t else qE s) = x := ⟨_, rfl⟩
  rw [hx] at n0 ⊢
  have q0 : (x != 0) = true := by simpa using n0
  have HX := hid hx
  clear h0 n0 eB eE hx
  go_enter Tryz.func49, Tryz.ntmps49
  go_wp2_with fail
  refine (R1 _).out.mono ?_; rintro e w1 ⟨⟨m, a, n, c, a', n', c', m2, b, j, d, b', j', d', rfl, -⟩, hb1⟩
  rw [HX.out]
  have y1 := hid hb1
  have y2 := hid ((hb1.alloc hb1.size (.cells #[.bool m, .slice a n c, .slice a' n' c'] 83)).alloc (Nat.le_trans hb1.size (by simp)) (.cells #[.bool m2, .slice b j d, .slice b' j' d'] 83))
  clear hb1
  go_wp2_with fail
  go_ret2
  exact ⟨rfl, y2.out⟩
theorem r2_Mul (w : World) (s t : ByteArray) (hs : s.size ≤ 1000000) (ht : t.size ≤ 1000000) :
 Calls Tryz.prog 16 #[.string s, .string t] w fun e w' => e = .returned (.tuple #[.string (op2B (· * ·) s t), .int .i64 (op2E (· * ·) s t)]) ∧ Below w.heap.size w w' := by
 have R1 := fun V => hid (r2_two V s t hs ht)
 clear hs ht
 by_cases h0 : qE s = 0 ∧ qE t = 0
 ·have eB : op2B (· * ·) s t = outB (vQ s * vQ t) := by rw [op2B, if_pos h0]
  have eE : op2E (· * ·) s t = outE (vQ s * vQ t) := by rw [op2E, if_pos h0.1, if_pos h0.2]
  rw [eB, eE]
  have ds := dig_of_fits (vQ_fits h0.1)
  have dt := dig_of_fits (vQ_fits h0.2)
  have dl := hid ((dig_mul ds dt).limbs (L := 1000000) (by omega) (by omega))
  have HO := fun V v u hp hq => hid (op_times V v u (vQ s) (vQ t) hp hq ds dt)
  have HW := fun V v h => hid (r2_Write V v (vQ s * vQ t) h dl.out.1 dl.out.2)
  obtain ⟨oB, hB⟩ : ∃ x, outB (vQ s * vQ t) = x := ⟨_, rfl⟩
  obtain ⟨oE, hE⟩ : ∃ x, outE (vQ s * vQ t) = x := ⟨_, rfl⟩
  rw [hB, hE] at HW
  rw [hB, hE]
  have H0 := hid h0
  clear eB eE ds dt dl hB hE h0
  go_enter Tryz.func16, Tryz.ntmps16
  go_wp2_with fail
  refine (R1 _).out.mono ?_; rintro e w1 ⟨⟨m, a, n, c, a', n', c', m2, b, j, d, b', j', d', rfl, hq⟩, hb1⟩
  obtain ⟨q1, q2⟩ := hq H0.out.1 H0.out.2
  rw [if_pos H0.out.1, H0.out.2]
  have b0 := ((Below.refl w1.heap.size w1).alloc (Nat.le_refl _) (.cells #[.bool m, .slice a n c, .slice a' n' c'] 83)).alloc (by simp) (.cells #[.bool m2, .slice b j d, .slice b' j' d'] 83)
  have y2 := hid (bnext hb1 b0)
  have H1 := HO _ _ _ (q1.call b0) (q2.call b0)
  clear hb1 q1 q2 hq b0 HO R1
  go_wp2_with fail
  refine H1.out.mono ?_; rintro e w2 ⟨⟨v, rfl, hv⟩, hb2⟩
  have y3 := hid (bnext y2.out hb2)
  have H2 := HW _ _ hv
  obtain ⟨m3, a3, n3, c3, a4, n4, c4, rfl⟩ := hv.qv
  clear hv hb2 HW H1
  go_wp2_with fail
  refine H2.out.mono ?_; rintro e w3 ⟨rfl, hb3⟩
  have y4 := hid (bnext y3.out hb3)
  clear hb3 H2
  go_wp2_with fail
  go_ret2
  exact ⟨rfl, y4.out⟩
 ·have n0 : (if qE s = 0 then qE t else qE s) ≠ 0 := by
   split
   ·rename_i h; exact fun e => h0 ⟨h, e⟩
   ·rename_i h; exact h
  have eB : op2B (· * ·) s t = ⟨#[]⟩ := by rw [op2B, if_neg h0]
  have eE : op2E (· * ·) s t = if qE s = 0 then qE t else qE s := by
   rw [op2E]
   split
   ·rename_i h; rw [if_neg (fun e => h0 ⟨h, e⟩)]
   ·rfl
  rw [eB, eE]
  obtain ⟨x, hx⟩ : ∃ x, (if qE s = 0 then qE t else qE s) = x := ⟨_, rfl⟩
  rw [hx] at n0 ⊢
  have q0 : (x != 0) = true := by simpa using n0
  have HX := hid hx
  clear h0 n0 eB eE hx
  go_enter Tryz.func16, Tryz.ntmps16
  go_wp2_with fail
  refine (R1 _).out.mono ?_; rintro e w1 ⟨⟨m, a, n, c, a', n', c', m2, b, j, d, b', j', d', rfl, -⟩, hb1⟩
  rw [HX.out]
  have y1 := hid hb1
  have y2 := hid ((hb1.alloc hb1.size (.cells #[.bool m, .slice a n c, .slice a' n' c'] 83)).alloc (Nat.le_trans hb1.size (by simp)) (.cells #[.bool m2, .slice b j d, .slice b' j' d'] 83))
  clear hb1
  go_wp2_with fail
  go_ret2
  exact ⟨rfl, y2.out⟩
theorem r2_Order (w : World) (v u : Value) (p q : Rat) (hp : IsQ .i64 w v p) (hq : IsQ .i64 w u q) (dp : Dig 4000 p) (dq : Dig 4000 q) :
 Calls Tryz.prog 46 #[v, u] w fun e w' => e = .returned (.int .i64 (ordQ p q)) ∧ Below w.heap.size w w' := by
 have HO := fun V v u hp hq => hid (op_plus V v u p (-q) hp hq dp (dig_neg dq))
 have HG := fun V v h => hid (r2_Negative V v q h)
 have HP := hid hp; have HQ := hid hq
 obtain ⟨m, a, n, c, a', n', c', rfl⟩ := hp.qv
 obtain ⟨m2, b, j, d, b', j', d', rfl⟩ := hq.qv
 rw [show ordQ p q = sgnQ (p + -q) by rw [ordQ, Rat.sub_eq_add_neg]]
 obtain ⟨z, hz⟩ : ∃ z, p + -q = z := ⟨_, rfl⟩
 simp only [hz] at HO
 rw [hz]
 clear hp hq dp dq hz
 go_enter Tryz.func46, Tryz.ntmps46
 go_upto_region 1 with fail
 obtain ⟨W, hW⟩ : ∃ W, (w.alloc (.cells #[.bool m, .slice a n c, .slice a' n' c'] 83)).alloc (.cells #[.bool m2, .slice b j d, .slice b' j' d'] 83) = W := ⟨_, rfl⟩
 have Y0 : Blk W w.heap.size #[.bool m, .slice a n c, .slice a' n' c'] 83 := by rw [← hW]; exact (Blk.new w _ _).alloc _
 have Y1 : Blk W (w.heap.size + 1) #[.bool m2, .slice b j d, .slice b' j' d'] 83 := by rw [← hW]; exact Blk.made _ _ _ (by simp)
 have y0 : Below w.heap.size w W := by rw [← hW]; exact ((Below.refl _ _).alloc (Nat.le_refl _) _).alloc (by simp) _
 rw [hW]
 have KK : Hid (∀ w', Below W.heap.size W w' → w'.cell? ⟨w.heap.size, 0, none⟩ = some (.bool m) ∧ w'.cell? ⟨w.heap.size, 1, none⟩ = some (.slice a n c) ∧ w'.cell? ⟨w.heap.size, 2, none⟩ = some (.slice a' n' c') ∧ w'.cell? ⟨w.heap.size + 1, 0, none⟩ = some (.bool m2) ∧ w'.cell? ⟨w.heap.size + 1, 1, none⟩ = some (.slice b j d) ∧ w'.cell? ⟨w.heap.size + 1, 2, none⟩ = some (.slice b' j' d')) := fun w' hb =>
  ⟨(Y0.call hb).cell 0, (Y0.call hb).cell 1, (Y0.call hb).cell 2, (Y1.call hb).cell 0, (Y1.call hb).cell 1, (Y1.call hb).cell 2⟩
 have Q1 := hid (HP.out.call y0); have Q2 := hid (HQ.out.call y0)
 have HY := hid y0
 clear Y0 Y1 y0 hW
 go_cut [5] (fun s5 wx => ∃ (g : Nat) (a5 : Option Addr) (n5 c5 : Nat) (a6 : Option Addr) (n6 c6 : Nat), s5 = .pointer (some ⟨g, 0, none⟩) ∧ Hid (Blk wx g #[.bool (decide (z.num < 0)), .slice a5 n5 c5, .slice a6 n6 c6] 83) ∧ Hid (n5 = (limbs z.num.natAbs).length) ∧ Hid (Below W.heap.size W wx))
 case first =>
  refine held_plain [0, 1] 4 (fun w' => w'.cell? ⟨w.heap.size, 0, none⟩ = some (.bool m) ∧ w'.cell? ⟨w.heap.size, 1, none⟩ = some (.slice a n c) ∧ w'.cell? ⟨w.heap.size, 2, none⟩ = some (.slice a' n' c') ∧ w'.cell? ⟨w.heap.size + 1, 0, none⟩ = some (.bool m2) ∧ w'.cell? ⟨w.heap.size + 1, 1, none⟩ = some (.slice b j d) ∧ w'.cell? ⟨w.heap.size + 1, 2, none⟩ = some (.slice b' j' d')) (by kernel_rfl) (by kernel_rfl) (by kernel_rfl) (by kernel_rfl) (KK.out _ (Below.refl _ _).drew) ?_
  iterate 2
   refine ⟨_, rfl, ?_⟩
   apply Exists.intro
   refine ⟨.inl ⟨by rfl, ?_⟩, ?_⟩
   ·(intro W' hW'; obtain ⟨q1, q2, q3, q4, q5, q6⟩ := hW'; go_simp; try (with_reducible rfl))
   (dsimp only [Act.put]; try simp only [List.setIfInBounds_toArray, List.set_cons_zero, List.set_cons_succ])
  refine held_two (i := 2) (j := 4) (by kernel_rfl) (by rfl) (by rfl) (by rfl) (by rfl) ?_ ?_
  ·go_wp2_with fail
   refine (HG _ _ (Q2.out.call (Below.refl _ _).drew)).out.mono ?_; rintro e w3 ⟨⟨v3, rfl, hv3⟩, hb3⟩
   have x3 := hid (show Below W.heap.size W w3 from (Below.refl _ _).drew.trans hb3)
   have N3 := hid hv3
   obtain ⟨m5, a5, n5, c5, a6, n6, c6, rfl⟩ := hv3.qv
   clear hb3 hv3
   go_wp2_with fail
   refine ⟨KK.out _ x3.out, ?_⟩
   refine held_two (i := 3) (j := 4) (by kernel_rfl) (by rfl) (by rfl) (by rfl) (by rfl) ?_ ?_
   ·go_wp2_with fail
    refine (HO _ _ _ (Q1.out.call x3.out) N3.out).out.mono ?_; rintro e w4 ⟨⟨v4, rfl, hv4⟩, hb4⟩
    have x4 := hid (bnext x3.out hb4)
    obtain ⟨N, D, rfl, h1, h2⟩ := hv4.ex
    obtain ⟨a7, c7, rfl, -⟩ := h1.openI
    obtain ⟨a8, c8, rfl, -⟩ := h2.openI
    clear hb4 hv4 h1 h2
    go_wp2_with fail
    refine ⟨KK.out _ x4.out, ?_⟩
    refine held_one (i := 4) (by kernel_rfl) (by rfl) (by rfl) ?_
    go_wp2_with fail
    refine ⟨KK.out _ (x4.out.alloc x4.out.size _), ?_⟩
    refine held_one (i := 5) (by kernel_rfl) (by rfl) (by rfl) ?_
    go_wp2_with fail
    refine ⟨KK.out _ (x4.out.alloc x4.out.size _), ?_⟩
    refine wpAnyH_done (by kernel_rfl) ?_ _
    simp only [Only]
    go_wp2_with fail
    go_meet
    exact ⟨_, _, _, _, _, _, _, rfl, Blk.new w4 _ _, rfl, x4.out.alloc x4.out.size _⟩
   ·go_wp2_with fail
    have A3 := hid (x3.out.alloc x3.out.size (.cells #[.bool false, .slice none 0 0, .slice none 0 0] 83))
    have b3 := hid (Blk.new w3 #[.bool false, .slice none 0 0, .slice none 0 0] 83)
    have n3 := hid (N3.out.call ((Below.refl _ _).alloc (Nat.le_refl _) (.cells #[.bool false, .slice none 0 0, .slice none 0 0] 83)))
    refine ⟨KK.out _ A3.out, ?_⟩
    refine held_one (i := 3) (by kernel_rfl) (by rfl) (by rfl) ?_
    go_wp2_with fail
    refine (HO _ _ _ (Q1.out.call A3.out) n3.out).out.mono ?_; rintro e w4 ⟨⟨v4, rfl, hv4⟩, hb4⟩
    have x4 := hid (bnext A3.out hb4)
    have b4 := hid (b3.out.call hb4)
    obtain ⟨N, D, rfl, h1, h2⟩ := hv4.ex
    obtain ⟨a7, c7, rfl, -⟩ := h1.openI
    obtain ⟨a8, c8, rfl, -⟩ := h2.openI
    have t0 := b4.out.cell 0
    have t1 := b4.out.cell 1
    have t2 := b4.out.cell 2
    have t3 := b4.out.free 0
    have t4 := b4.out.free 1
    have t5 := b4.out.free 2
    simp at t0 t1 t2
    have ge := hid (show W.heap.size ≤ w3.heap.size from x3.out.size)
    obtain ⟨k7, hk7⟩ : ∃ k, (limbs z.num.natAbs).length = k := ⟨_, rfl⟩
    obtain ⟨k8, hk8⟩ : ∃ k, (limbs z.den).length = k := ⟨_, rfl⟩
    obtain ⟨mz, hmz⟩ : ∃ m, decide (z.num < 0) = m := ⟨_, rfl⟩
    rw [hk7, hk8, hmz]
    have HK7 := hid hk7; have HMZ := hid hmz
    clear hb4 hv4 h1 h2 hk7 hk8 hmz
    go_wp2_with fail
    refine ⟨KK.out _ x4.out, ?_⟩
    refine held_one (i := 5) (by kernel_rfl) (by rfl) (by rfl) ?_
    go_wp2_with fail
    obtain ⟨s1, s2⟩ := set3 b4.out mz a7 a8 k7 c7 k8 c8
    have x5 := hid (below_set (below_set (below_set x4.out (i := 0) ge.out (.bool mz)) (i := 1) ge.out (.slice a7 k7 c7)) (i := 2) ge.out (.slice a8 k8 c8))
    have S2 := hid s2
    clear s1 s2 t0 t1 t2 t3 t4 t5
    refine ⟨KK.out _ x5.out, ?_⟩
    refine wpAnyH_done (by kernel_rfl) ?_ _
    simp only [Only]
    go_wp2_with fail
    go_meet
    exact ⟨_, _, _, _, _, _, _, rfl, by rw [HMZ.out]; exact S2, HK7.out.symm, x5⟩
  ·go_wp2_with fail
   have A0 := hid (show Below W.heap.size W (W.alloc (.cells #[.bool false, .slice none 0 0, .slice none 0 0] 83)).drew from ((Below.refl _ _).alloc (Nat.le_refl _) _).drew)
   have b0 := hid (show Blk (W.alloc (.cells #[.bool false, .slice none 0 0, .slice none 0 0] 83)).drew W.heap.size #[.bool false, .slice none 0 0, .slice none 0 0] 83 from Blk.new W _ _)
   refine ⟨KK.out _ A0.out, ?_⟩
   refine held_one (i := 2) (by kernel_rfl) (by rfl) (by rfl) ?_
   go_wp2_with fail
   refine (HG _ _ (Q2.out.call A0.out)).out.mono ?_; rintro e w3 ⟨⟨v3, rfl, hv3⟩, hb3⟩
   have x3 := hid (A0.out.trans (hb3.mono A0.out.size))
   have b3 := hid (b0.out.call hb3)
   have N3 := hid hv3
   obtain ⟨m5, a5, n5, c5, a6, n6, c6, rfl⟩ := hv3.qv
   clear hb3 hv3
   go_wp2_with fail
   refine ⟨KK.out _ x3.out, ?_⟩
   refine held_one (i := 3) (by kernel_rfl) (by rfl) (by rfl) ?_
   go_wp2_with fail
   refine (HO _ _ _ (Q1.out.call x3.out) N3.out).out.mono ?_; rintro e w4 ⟨⟨v4, rfl, hv4⟩, hb4⟩
   have x4 := hid (bnext x3.out hb4)
   have b4 := hid (b3.out.call hb4)
   obtain ⟨N, D, rfl, h1, h2⟩ := hv4.ex
   obtain ⟨a7, c7, rfl, -⟩ := h1.openI
   obtain ⟨a8, c8, rfl, -⟩ := h2.openI
   have t0 := b4.out.cell 0
   have t1 := b4.out.cell 1
   have t2 := b4.out.cell 2
   have t3 := b4.out.free 0
   have t4 := b4.out.free 1
   have t5 := b4.out.free 2
   simp at t0 t1 t2
   have ge := hid (Nat.le_refl W.heap.size)
   obtain ⟨k7, hk7⟩ : ∃ k, (limbs z.num.natAbs).length = k := ⟨_, rfl⟩
   obtain ⟨k8, hk8⟩ : ∃ k, (limbs z.den).length = k := ⟨_, rfl⟩
   obtain ⟨mz, hmz⟩ : ∃ m, decide (z.num < 0) = m := ⟨_, rfl⟩
   rw [hk7, hk8, hmz]
   have HK7 := hid hk7; have HMZ := hid hmz
   clear hb4 hv4 h1 h2 hk7 hk8 hmz
   go_wp2_with fail
   refine ⟨KK.out _ x4.out, ?_⟩
   refine held_one (i := 5) (by kernel_rfl) (by rfl) (by rfl) ?_
   go_wp2_with fail
   obtain ⟨s1, s2⟩ := set3 b4.out mz a7 a8 k7 c7 k8 c8
   have x5 := hid (below_set (below_set (below_set x4.out (i := 0) ge.out (.bool mz)) (i := 1) ge.out (.slice a7 k7 c7)) (i := 2) ge.out (.slice a8 k8 c8))
   have S2 := hid s2
   clear s1 s2 t0 t1 t2 t3 t4 t5
   refine ⟨KK.out _ x5.out, ?_⟩
   refine wpAnyH_done (by kernel_rfl) ?_ _
   simp only [Only]
   go_wp2_with fail
   go_meet
   exact ⟨_, _, _, _, _, _, _, rfl, by rw [HMZ.out]; exact S2, HK7.out.symm, x5⟩
 case rest =>
  obtain ⟨g, a5, n5, c5, a6, n6, c6, rfl, hB, hn, hW⟩ := hcut
  have r0 := hB.out.cell 0
  have r1 := hB.out.cell 1
  simp at r0 r1
  have yz := hid (bnext HY.out hW.out)
  by_cases h1 : z.num = 0
  ·have es : Hid (sgnQ z = 0) := by show sgnQ z = 0; rw [sgnQ, if_pos h1]
   obtain rfl : n5 = 0 := by rw [hn.out, h1]; exact limbs_none.2 rfl
   clear h1
   go_wp2_with fail
   go_ret
   exact ⟨by rw [es.out]; rfl, yz.out⟩
  ·have h2 : n5 ≠ 0 := fun e => h1 (by rw [hn.out] at e; have := limbs_none.1 e; omega)
   have q1 : ((n5 : Int) == 0) = false := by simp; omega
   obtain ⟨mm, hmm⟩ : ∃ m, decide (z.num < 0) = m := ⟨_, rfl⟩
   have es : sgnQ z = if mm = true then -1 else 1 := by
    rw [sgnQ, if_neg h1, ← hmm]; simp
   have ES := hid es
   rw [hmm] at r0
   clear h1 h2 es hmm
   cases mm
   all_goals
    go_wp2_with fail
    go_ret
    exact ⟨by rw [ES.out]; rfl, yz.out⟩
theorem r2_Cmp (w : World) (s t : ByteArray) (hs : s.size ≤ 1000000) (ht : t.size ≤ 1000000) :
 Calls Tryz.prog 18 #[.string s, .string t] w fun e w' => e = .returned (.tuple #[.int .i64 (cmB s t), .int .i64 (cmE s t)]) ∧ Below w.heap.size w w' := by
 have R1 := fun V => hid (r2_two V s t hs ht)
 clear hs ht
 by_cases h0 : qE s = 0 ∧ qE t = 0
 ·have eB : cmB s t = ordQ (vQ s) (vQ t) := by rw [cmB, if_pos h0]
  have eE : cmE s t = 0 := by rw [cmE, if_pos h0.1, h0.2]
  rw [eB, eE]
  have ds := dig_of_fits (vQ_fits h0.1)
  have dt := dig_of_fits (vQ_fits h0.2)
  have HO := fun V v u hp hq => hid (r2_Order V v u (vQ s) (vQ t) hp hq ds dt)
  obtain ⟨o, ho⟩ : ∃ x, ordQ (vQ s) (vQ t) = x := ⟨_, rfl⟩
  rw [ho] at HO ⊢
  have H0 := hid h0
  clear eB eE ds dt ho h0
  go_enter Tryz.func18, Tryz.ntmps18
  go_wp2_with fail
  refine (R1 _).out.mono ?_; rintro e w1 ⟨⟨m, a, n, c, a', n', c', m2, b, j, d, b', j', d', rfl, hq⟩, hb1⟩
  obtain ⟨q1, q2⟩ := hq H0.out.1 H0.out.2
  rw [if_pos H0.out.1, H0.out.2]
  have b0 := ((Below.refl w1.heap.size w1).alloc (Nat.le_refl _) (.cells #[.bool m, .slice a n c, .slice a' n' c'] 83)).alloc (by simp) (.cells #[.bool m2, .slice b j d, .slice b' j' d'] 83)
  have y2 := hid (bnext hb1 b0)
  have H1 := HO _ _ _ (q1.call b0) (q2.call b0)
  clear hb1 q1 q2 hq b0 HO R1
  go_wp2_with fail
  refine H1.out.mono ?_; rintro e w2 ⟨rfl, hb2⟩
  have y3 := hid (bnext y2.out hb2)
  clear hb2 H1
  go_wp2_with fail
  go_ret2
  exact ⟨rfl, y3.out⟩
 ·obtain ⟨n0, -, -⟩ := op2_err (f := (· - ·)) h0
  rw [cmB, if_neg h0, cmE]
  obtain ⟨x, hx⟩ : ∃ x, (if qE s = 0 then qE t else qE s) = x := ⟨_, rfl⟩
  rw [hx] at n0 ⊢
  have q0 : (x != 0) = true := by simpa using n0
  have HX := hid hx
  clear h0 n0 hx
  go_enter Tryz.func18, Tryz.ntmps18
  go_wp2_with fail
  refine (R1 _).out.mono ?_; rintro e w1 ⟨⟨m, a, n, c, a', n', c', m2, b, j, d, b', j', d', rfl, -⟩, hb1⟩
  rw [HX.out]
  have y2 := hid ((hb1.alloc hb1.size (.cells #[.bool m, .slice a n c, .slice a' n' c'] 83)).alloc (Nat.le_trans hb1.size (by simp)) (.cells #[.bool m2, .slice b j d, .slice b' j' d'] 83))
  clear hb1
  go_wp2_with fail
  go_ret2
  exact ⟨rfl, y2.out⟩
theorem r2_Sub (w : World) (s t : ByteArray) (hs : s.size ≤ 1000000) (ht : t.size ≤ 1000000) :
 Calls Tryz.prog 47 #[.string s, .string t] w fun e w' => e = .returned (.tuple #[.string (op2B (· - ·) s t), .int .i64 (op2E (· - ·) s t)]) ∧ Below w.heap.size w w' := by
 have R1 := fun V => hid (r2_two V s t hs ht)
 clear hs ht
 by_cases h0 : qE s = 0 ∧ qE t = 0
 ·have eB : op2B (· - ·) s t = outB (vQ s + -vQ t) := by rw [op2B, if_pos h0, Rat.sub_eq_add_neg]
  have eE : op2E (· - ·) s t = outE (vQ s + -vQ t) := by rw [op2E, if_pos h0.1, if_pos h0.2, Rat.sub_eq_add_neg]
  rw [eB, eE]
  have ds := dig_of_fits (vQ_fits h0.1)
  have dt := dig_neg (dig_of_fits (vQ_fits h0.2))
  have dl := hid ((dig_add ds dt).limbs (L := 1000000) (by omega) (by omega))
  have HO := fun V v u hp hq => hid (op_plus V v u (vQ s) (-vQ t) hp hq ds dt)
  have HG := fun V v h => hid (r2_Negative V v (vQ t) h)
  have HW := fun V v h => hid (r2_Write V v (vQ s + -vQ t) h dl.out.1 dl.out.2)
  obtain ⟨oB, hB⟩ : ∃ x, outB (vQ s + -vQ t) = x := ⟨_, rfl⟩
  obtain ⟨oE, hE⟩ : ∃ x, outE (vQ s + -vQ t) = x := ⟨_, rfl⟩
  rw [hB, hE] at HW
  rw [hB, hE]
  have H0 := hid h0
  clear eB eE ds dt dl hB hE h0
  go_enter Tryz.func47, Tryz.ntmps47
  go_wp2_with fail
  refine (R1 _).out.mono ?_; rintro e w1 ⟨⟨m, a, n, c, a', n', c', m2, b, j, d, b', j', d', rfl, hq⟩, hb1⟩
  obtain ⟨q1, q2⟩ := hq H0.out.1 H0.out.2
  rw [if_pos H0.out.1, H0.out.2]
  have b0 := hid (((Below.refl w1.heap.size w1).alloc (Nat.le_refl _) (.cells #[.bool m, .slice a n c, .slice a' n' c'] 83)).alloc (by simp) (.cells #[.bool m2, .slice b j d, .slice b' j' d'] 83))
  have Y0 := hid ((Blk.new w1 #[.bool m, .slice a n c, .slice a' n' c'] 83).alloc (.cells #[.bool m2, .slice b j d, .slice b' j' d'] 83))
  have Y1 := hid (Blk.made (w1.alloc (.cells #[.bool m, .slice a n c, .slice a' n' c'] 83)) #[.bool m2, .slice b j d, .slice b' j' d'] 83 (n := w1.heap.size + 1) (by simp))
  have y2 := hid (bnext hb1 b0.out)
  have Q1 := hid (q1.call b0.out); have Q2 := hid (q2.call b0.out)
  clear hb1 q1 q2 hq R1
  go_wp2_with fail
  obtain ⟨W, hW⟩ : ∃ W, (w1.alloc (.cells #[.bool m, .slice a n c, .slice a' n' c'] 83)).alloc (.cells #[.bool m2, .slice b j d, .slice b' j' d'] 83) = W := ⟨_, rfl⟩
  rw [hW] at Y0 Y1 y2 Q1 Q2 ⊢
  have KK : Hid (∀ w', Below W.heap.size W w' → w'.cell? ⟨w1.heap.size, 0, none⟩ = some (.bool m) ∧ w'.cell? ⟨w1.heap.size, 1, none⟩ = some (.slice a n c) ∧ w'.cell? ⟨w1.heap.size, 2, none⟩ = some (.slice a' n' c') ∧ w'.cell? ⟨w1.heap.size + 1, 0, none⟩ = some (.bool m2) ∧ w'.cell? ⟨w1.heap.size + 1, 1, none⟩ = some (.slice b j d) ∧ w'.cell? ⟨w1.heap.size + 1, 2, none⟩ = some (.slice b' j' d')) := fun w' hb =>
   ⟨(Y0.out.call hb).cell 0, (Y0.out.call hb).cell 1, (Y0.out.call hb).cell 2, (Y1.out.call hb).cell 0, (Y1.out.call hb).cell 1, (Y1.out.call hb).cell 2⟩
  clear b0 hW
  refine held_plain [0, 1] 7 (fun w' => w'.cell? ⟨w1.heap.size, 0, none⟩ = some (.bool m) ∧ w'.cell? ⟨w1.heap.size, 1, none⟩ = some (.slice a n c) ∧ w'.cell? ⟨w1.heap.size, 2, none⟩ = some (.slice a' n' c') ∧ w'.cell? ⟨w1.heap.size + 1, 0, none⟩ = some (.bool m2) ∧ w'.cell? ⟨w1.heap.size + 1, 1, none⟩ = some (.slice b j d) ∧ w'.cell? ⟨w1.heap.size + 1, 2, none⟩ = some (.slice b' j' d')) (by kernel_rfl) (by kernel_rfl) (by kernel_rfl) (by kernel_rfl) (KK.out _ (Below.refl _ _).drew) ?_
  iterate 2
   refine ⟨_, rfl, ?_⟩
   apply Exists.intro
   refine ⟨.inl ⟨by rfl, ?_⟩, ?_⟩
   ·(intro W' hW'; obtain ⟨q1, q2, q3, q4, q5, q6⟩ := hW'; go_simp; try (with_reducible rfl))
   (dsimp only [Act.put]; try simp only [List.setIfInBounds_toArray, List.set_cons_zero, List.set_cons_succ])
  refine held_one (i := 2) (by kernel_rfl) (by rfl) (by rfl) ?_
  go_wp2_with fail
  refine (HG _ _ (Q2.out.call (Below.refl _ _).drew)).out.mono ?_; rintro e w3 ⟨⟨v3, rfl, hv3⟩, hb3⟩
  have x3 := hid (show Below W.heap.size W w3 from (Below.refl _ _).drew.trans hb3)
  have N3 := hid hv3
  obtain ⟨m5, a5, n5, c5, a6, n6, c6, rfl⟩ := hv3.qv
  clear hb3 hv3
  go_wp2_with fail
  refine ⟨KK.out _ x3.out, ?_⟩
  refine held_one (i := 3) (by kernel_rfl) (by rfl) (by rfl) ?_
  go_wp2_with fail
  refine (HO _ _ _ (Q1.out.call x3.out) N3.out).out.mono ?_; rintro e w4 ⟨⟨v4, rfl, hv4⟩, hb4⟩
  have x4 := hid (bnext x3.out hb4)
  have N4 := hid hv4
  obtain ⟨m7, a7, n7, c7, a8, n8, c8, rfl⟩ := hv4.qv
  clear hb4 hv4
  go_wp2_with fail
  refine ⟨KK.out _ x4.out, ?_⟩
  refine held_one (i := 4) (by kernel_rfl) (by rfl) (by rfl) ?_
  go_wp2_with fail
  refine (HW _ _ N4.out).out.mono ?_; rintro e w5 ⟨rfl, hb5⟩
  have x5 := hid (bnext x4.out hb5)
  clear hb5
  go_wp2_with fail
  refine ⟨KK.out _ x5.out, ?_⟩
  refine held_more (is := [5, 6, 7, 8]) (g := 0) (by kernel_rfl) rfl (KK.out _ x5.out) (by kernel_rfl) ?_
  iterate 4
   refine ⟨_, rfl, ?_⟩
   apply Exists.intro
   refine ⟨.inl ⟨by rfl, ?_⟩, ?_⟩
   ·(intro W' hW'; obtain ⟨q1, q2, q3, q4, q5, q6⟩ := hW'; go_simp; try (with_reducible rfl))
   (dsimp only [Act.put]; try simp only [List.setIfInBounds_toArray, List.set_cons_zero, List.set_cons_succ])
  refine wpAnyH_done (by kernel_rfl) ?_ _
  simp only [Only]
  go_wp2_with fail
  go_ret2
  exact ⟨rfl, bnext y2.out x5.out⟩
 ·obtain ⟨n0, eB, eE⟩ := op2_err (f := (· - ·)) h0
  rw [eB, eE]
  obtain ⟨x, hx⟩ : ∃ x, (if qE s = 0 then qE t else qE s) = x := ⟨_, rfl⟩
  rw [hx] at n0 ⊢
  have q0 : (x != 0) = true := by simpa using n0
  have HX := hid hx
  clear h0 n0 eB eE hx
  go_enter Tryz.func47, Tryz.ntmps47
  go_wp2_with fail
  refine (R1 _).out.mono ?_; rintro e w1 ⟨⟨m, a, n, c, a', n', c', m2, b, j, d, b', j', d', rfl, -⟩, hb1⟩
  rw [HX.out]
  have y2 := hid ((hb1.alloc hb1.size (.cells #[.bool m, .slice a n c, .slice a' n' c'] 83)).alloc (Nat.le_trans hb1.size (by simp)) (.cells #[.bool m2, .slice b j d, .slice b' j' d'] 83))
  clear hb1
  go_wp2_with fail
  go_ret2
  exact ⟨rfl, y2.out⟩
end Go.Proofs.YtgphopkifomffaaGreatDoor
