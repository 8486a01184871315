/- Texts that the proof rests on, merged: Sla, Sn0, Lits, Slv, Sct1, Sct2. -/
import Derived.Test.YtlmnpocifldpmaaGreatDoorKd10
import Derived.Deep.DeepCutAuto
import Derived.Sort.Walk0
import Derived.WalkLawsBesides
set_option linter.unusedVariables false
set_option linter.unusedSimpArgs false
set_option linter.unusedSectionVars false
set_option maxRecDepth 100000
set_option maxHeartbeats 8000000
namespace Go.Proofs.YtlmnpocifldpmaaGreatDoor
open Go.RowKit
open Go.Shelf
open Go.Lib (decDigits nDigits)
theorem MRow.nilP (w : World) : MRow w (.slice none 0 0) [] := MRow.nil w
theorem sp_Law (w : World) (v : Value) (c : List Int) (thr : Int) (a r : ByteArray) (n : Int) (hv : Row w v (zs c)) (ha : a.size ≤ 100000) (hr : r.size ≤ 100000) (hL : LayB w) :
 Calls Tryz.prog 10 #[v, .int .i64 thr, .string a, .string r, .int .i64 n] w fun e w' => (∃ u, e = .returned (.tuple #[u, .int .i64 (slE c thr a r n)]) ∧ MRow w' u (slR c thr a r n)) ∧ Below w.heap.size w w' := by
 by_cases h0 : slE c thr a r n = 0
 ·have hE := h0
  unfold slE at h0
  split at h0
  ·rename_i h1; exact absurd h0 h1
  ·rename_i h1
   split at h0
   ·cases h0
   ·rename_i h2
    split at h0
    ·cases h0
    ·rename_i h3
     obtain ⟨m, rfl⟩ : ∃ m : Nat, n = (m : Nat) := ⟨n.toNat, by omega⟩
     rw [hE]
     have e2 : slR c thr a r (m : Nat) = sortM (sqD (gV (bN (cW a)) (bN (qD a)) true m) (gV (bN (cW r)) (bN (qD r)) true m) m thr c) := by unfold slR; rw [if_pos hE, Int.toNat_natCast]
     rw [e2]
     refine sp_Law_ok w v c thr a r m hv ha hr (Classical.byContradiction h1) (by omega) ?_ hL
     have : ¬ (256 : Int) < ((m * (c.length + 1) : Nat) : Int) := by rwa [Int.natCast_mul, Int.natCast_add]
     omega
 ·have e2 : slR c thr a r n = [] := if_neg h0
  rw [e2]
  have HQ := fun V hV hLV => hid (sp_question V v c thr a r hV ha hr hLV)
  have HV := hid hv; have HL := hid hL
  obtain ⟨s, cp, rfl, q1, q2, q3⟩ := hv.openZ
  obtain ⟨L, hLL⟩ : ∃ L, c.length = L := ⟨_, rfl⟩
  unfold slE at h0 ⊢
  obtain ⟨z, hz⟩ : ∃ z, sqnE c thr a r = z := ⟨_, rfl⟩
  have hz0 := hz
  simp only [hz] at HQ
  rw [hz] at h0 ⊢
  rw [hLL] at HV h0 q1 ⊢
  simp only [hLL] at HQ
  have A1 := hid ((Below.refl w.heap.size w).alloc (Nat.le_refl _) (.cells #[.string a, .string r] 60))
  have X1 := hid (Blk.new w #[.string a, .string r] 60)
  by_cases c0 : z = 0
  case neg =>
   rw [if_pos c0]
   have t0 : (z == 0) = false := by rw [beq_eq_false_iff_ne]; exact c0
   have t0' : (z != 0) = true := by simpa using c0
   clear hv q3 hLL hz hz0 h0 c0 ha hr hL
   go_enter Tryz.func10, Tryz.ntmps10
   go_wp2_with fail
   refine (HQ _ (HV.out.call A1.out) (HL.out.call A1.out).l).out.mono ?_; rintro e w0 ⟨rfl, hb0⟩
   go_wp2_with fail
   go_ret2
   exact ⟨⟨_, rfl, MRow.nilP _⟩, bnext A1.out hb0⟩
  simp only [c0] at HQ
  rw [if_neg (by rw [c0]; simp)] at h0 ⊢
  by_cases c1 : n < 0 ∨ 32 < n
  ·rw [if_pos c1]
   obtain ⟨p, hp⟩ : ∃ p, decide (n < 0) = p := ⟨_, rfl⟩
   obtain ⟨q, hq⟩ : ∃ q, decide (32 < n) = q := ⟨_, rfl⟩
   have hpq : (p || q) = true := by rw [← hp, ← hq]; simpa using c1
   clear hv q3 hLL hz hz0 h0 c0 c1 ha hr hL
   cases p
   ·obtain rfl : q = true := by simpa using hpq
    clear hpq
    go_enter Tryz.func10, Tryz.ntmps10
    go_wp2_with fail
    refine (HQ _ (HV.out.call A1.out) (HL.out.call A1.out).l).out.mono ?_; rintro e w0 ⟨rfl, hb0⟩
    go_wp2_with fail
    go_ret2
    exact ⟨⟨_, rfl, MRow.nilP _⟩, bnext A1.out hb0⟩
   ·clear hpq hq
    go_enter Tryz.func10, Tryz.ntmps10
    go_wp2_with fail
    refine (HQ _ (HV.out.call A1.out) (HL.out.call A1.out).l).out.mono ?_; rintro e w0 ⟨rfl, hb0⟩
    go_wp2_with fail
    go_ret2
    exact ⟨⟨_, rfl, MRow.nilP _⟩, bnext A1.out hb0⟩
  ·rw [if_neg c1] at h0 ⊢
   obtain ⟨-, k2, -⟩ := sqnE_q (hz0.trans c0)
   rw [hLL] at k2
   obtain ⟨m, rfl⟩ : ∃ m : Nat, n = (m : Nat) := ⟨n.toNat, by omega⟩
   by_cases c2 : 256 < ((m : Nat) : Int) * (((L : Nat) : Int) + 1)
   ·rw [if_pos c2]
    have t1 : decide ((m : Int) < 0) = false := by simp
    have t2 : decide ((32 : Int) < (m : Int)) = false := by simp; omega
    obtain ⟨L1, hL1⟩ : ∃ L1, L1 = L + 1 := ⟨_, rfl⟩
    have wl : IntKind.i64.wrap ((L : Int) + 1) = (L1 : Int) := by rw [IntWalk.i64_in _ ⟨by omega, by omega⟩]; omega
    have e1 : ((L : Nat) : Int) + 1 = (L1 : Int) := by omega
    rw [e1] at c2
    obtain ⟨M, hM⟩ : ∃ M : Int, (m : Int) * (L1 : Int) = M := ⟨_, rfl⟩
    have hM2 : M ≤ 100000 := by
     rw [← hM]
     have h5 : m * L1 ≤ 32 * 257 := Nat.mul_le_mul (by omega) (by omega)
     have : ((m * L1 : Nat) : Int) ≤ 100000 := by omega
     rwa [Int.natCast_mul] at this
    rw [hM] at c2
    have wm : IntKind.i64.wrap ((m : Int) * (L1 : Int)) = M := by rw [hM, IntWalk.i64_in _ ⟨by omega, by omega⟩]
    have t3 : decide (256 < M) = true := decide_eq_true c2
    clear hv q3 hLL hz hz0 h0 c0 c1 c2 ha hr hL hM hM2 k2 e1 hL1
    go_enter Tryz.func10, Tryz.ntmps10
    go_wp2_with fail
    refine (HQ _ (HV.out.call A1.out) (HL.out.call A1.out).l).out.mono ?_; rintro e w0 ⟨rfl, hb0⟩
    go_wp2_with fail
    go_ret2
    exact ⟨⟨_, rfl, MRow.nilP _⟩, bnext A1.out hb0⟩
   ·rw [if_neg c2] at h0
    exact absurd rfl h0
end Go.Proofs.YtlmnpocifldpmaaGreatDoor
namespace Go.Proofs.YtlmnpocifldpmaaGreatDoor
open Go.RowKit
open Go.Lib (decDigits nDigits)
def h12 : ByteArray := ⟨#[49, 47, 50]⟩
def x11 : ByteArray := ⟨#[49, 49]⟩
theorem sn_l : fsA [3, 8, 9] 5 h12 h12 [x11, x11, x11, x11] = (1, true) ∧ fsE [3, 8, 9] 5 h12 h12 [x11, x11, x11, x11] = 0 := by decide +kernel
theorem addL_sort_two : sortM [((⟨#[108, 97, 116, 101]⟩, ⟨#[49, 53, 47, 49, 54]⟩) : ByteArray × ByteArray), (⟨#[48]⟩, ⟨#[49, 47, 49, 54]⟩)] = [(⟨#[48]⟩, ⟨#[49, 47, 49, 54]⟩), (⟨#[108, 97, 116, 101]⟩, ⟨#[49, 53, 47, 49, 54]⟩)] := by
 have h := addL_sort (L := [((⟨#[108, 97, 116, 101]⟩, ⟨#[49, 53, 47, 49, 54]⟩) : ByteArray × ByteArray)]) (key := ⟨#[48]⟩) (p := ⟨#[49, 47, 49, 54]⟩) (by decide) (by intro x hx; simp at hx; subst hx; decide) (List.pairwise_singleton _ _)
 have e : sortM [((⟨#[108, 97, 116, 101]⟩, ⟨#[49, 53, 47, 49, 54]⟩) : ByteArray × ByteArray)] = [(⟨#[108, 97, 116, 101]⟩, ⟨#[49, 53, 47, 49, 54]⟩)] := List.mergeSort_singleton _
 rw [e] at h
 refine Eq.trans h.symm ?_
 decide +kernel
theorem sn_d : slE [5] 5 h12 h12 2 = 0 ∧ slR [5] 5 h12 h12 2 = [(⟨#[48]⟩, ⟨#[49, 47, 49, 54]⟩), (⟨#[108, 97, 116, 101]⟩, ⟨#[49, 53, 47, 49, 54]⟩)] := by
 have h : slE [5] 5 h12 h12 2 = 0 := by decide +kernel
 refine ⟨h, ?_⟩
 unfold slR
 rw [if_pos h]
 have e : sqD (gV (bN (cW h12)) (bN (qD h12)) true (2 : Int).toNat) (gV (bN (cW h12)) (bN (qD h12)) true (2 : Int).toNat) (2 : Int).toNat 5 [5] = [(⟨#[108, 97, 116, 101]⟩, ⟨#[49, 53, 47, 49, 54]⟩), (⟨#[48]⟩, ⟨#[49, 47, 49, 54]⟩)] := by decide +kernel
 rw [e]
 exact addL_sort_two
end Go.Proofs.YtlmnpocifldpmaaGreatDoor
namespace Go.Proofs.YtlmnpocifldpmaaGreatDoor
open Go.RowKit
open Go.Shelf
theorem mrow_lit (w : World) (L : List (ByteArray × ByteArray)) (n : Nat) (hn : L.length = n) (hL : n ≤ 1000) : MRow (w.alloc (.cells (massC L).toArray 39)) (.slice (some ⟨w.heap.size, 0, none⟩) n n) L := by
 subst hn
 refine ⟨some ⟨w.heap.size, 0, none⟩, L.length, rfl, Nat.le_refl _, by omega, fun i x h => ⟨w.heap.size, 0, rfl, by simp, ?_, ?_⟩⟩
 ·rw [Nat.zero_add, (Blk.new w _ _).cell, List.getElem?_toArray]; exact (massC_get h).1
 ·rw [Nat.zero_add, (Blk.new w _ _).cell, List.getElem?_toArray]; exact (massC_get h).2
theorem rowZ_lit (w : World) (L : List Int) (n : Nat) (hn : L.length = n) (hL : n ≤ 1000) : Row (w.alloc (.cells (zs L).toArray 3)) (.slice (some ⟨w.heap.size, 0, none⟩) n n) (zs L) :=
 Row.of_blk (Blk.new w _ _) (by rw [zs_length]; exact hn) (by unfold maxLen; omega) (fun i x h => by rw [List.getElem?_toArray]; exact h) (Nat.le_refl _) (by unfold maxLen; omega)
open Go.Lib (decDigits nDigits)
theorem rowZ_isS (w : World) (L : List Int) (cs : Array Value) (n b : Nat) (hc : cs = (zs L).toArray) (hb : w.heap.size = b) (hn : L.length = n) (hL : n ≤ 1000) : Row (w.alloc (.cells cs 3)) (.slice (some ⟨b, 0, none⟩) n n) (zs L) := by
 subst hc hb
 exact rowZ_lit w L n hn hL
theorem rowB_isS (w : World) (L : List ByteArray) (cs : Array Value) (n b : Nat) (hc : cs = (strs L).toArray) (hb : w.heap.size = b) (hn : L.length = n) (hL : n ≤ 1000) : Row (w.alloc (.cells cs 33)) (.slice (some ⟨b, 0, none⟩) n n) (strs L) := by
 subst hc hb
 exact Row.of_blk (Blk.new w _ _) (by rw [strs_length]; exact hn) (by unfold maxLen; omega) (fun i x h => by rw [List.getElem?_toArray]; exact h) (Nat.le_refl _) (by unfold maxLen; omega)
theorem w_lives24 (w : World) (hL : LayB w) :
 Calls Tryz.prog 9 #[] w fun e w' => e = .returned (.bool true) ∧ Below w.heap.size w w' := by
 have HL := hid hL
 have PP := fun V v u hv hu hV => hid (sp_First V v u [3, 8, 9] 5 h12 h12 [x11, x11, x11, x11] hv hu (by decide) (by decide) (by decide) hV)
 have PL := fun V v hv hV => hid (sp_Law V v [5] 5 h12 h12 2 hv (by decide) (by decide) hV)
 rw [sn_l.1, sn_l.2] at PP
 rw [sn_d.1, sn_d.2] at PL
 unfold h12 x11 at PP
 unfold h12 at PL
 have PS := fun V u v hu hv => hid (k_SameM V u v [(⟨#[48]⟩, ⟨#[49, 47, 49, 54]⟩), (⟨#[108, 97, 116, 101]⟩, ⟨#[49, 53, 47, 49, 54]⟩)] [(⟨#[48]⟩, ⟨#[49, 47, 49, 54]⟩), (⟨#[108, 97, 116, 101]⟩, ⟨#[49, 53, 47, 49, 54]⟩)] hu hv)
 rw [decide_eq_true rfl] at PS
 clear hL
 have A1 := (Below.refl w.heap.size w).alloc (Nat.le_refl _) (.cells #[.int .i64 3, .int .i64 8, .int .i64 9] 3)
 have A2 := hid (A1.alloc A1.size (.cells #[.string ⟨#[49, 49]⟩, .string ⟨#[49, 49]⟩, .string ⟨#[49, 49]⟩, .string ⟨#[49, 49]⟩] 33))
 have R1 := hid ((rowZ_isS w [3, 8, 9] _ 3 w.heap.size rfl rfl rfl (by omega)).call ((Below.refl _ _).alloc (Nat.le_refl _) (.cells #[.string ⟨#[49, 49]⟩, .string ⟨#[49, 49]⟩, .string ⟨#[49, 49]⟩, .string ⟨#[49, 49]⟩] 33)))
 have R2 := hid (rowB_isS (w.alloc (.cells #[.int .i64 3, .int .i64 8, .int .i64 9] 3)) [⟨#[49, 49]⟩, ⟨#[49, 49]⟩, ⟨#[49, 49]⟩, ⟨#[49, 49]⟩] _ 4 (w.heap.size + 1) rfl (by simp) rfl (by omega))
 clear A1
 go_enter Tryz.func9, Tryz.ntmps9
 go_wp2_with fail
 refine (PP _ _ _ R1.out R2.out (HL.out.call A2.out).l).out.mono ?_; rintro e w1 ⟨rfl, hb1⟩
 have y1 := hid (bnext A2.out hb1)
 clear hb1
 go_wp2_with fail
 have A3 := hid ((Below.refl w1.heap.size w1).alloc (Nat.le_refl _) (.cells #[.int .i64 5] 3))
 have R3 := hid (rowZ_isS w1 [5] _ 1 w1.heap.size rfl rfl rfl (by omega))
 refine (PL _ _ R3.out (HL.out.call (bnext y1.out A3.out))).out.mono ?_; rintro e w2 ⟨⟨u, rfl, hu⟩, hb2⟩
 have y2 := hid (bnext y1.out (bnext A3.out hb2))
 have U2 := hid hu
 obtain ⟨a2, k2, rfl, -, -, -⟩ := hu.ex
 clear hb2 hu
 have A4 := hid ((Below.refl w2.heap.size w2).alloc (Nat.le_refl _) (.cells #[.string ⟨#[48]⟩, .string ⟨#[49, 47, 49, 54]⟩, .string ⟨#[108, 97, 116, 101]⟩, .string ⟨#[49, 53, 47, 49, 54]⟩] 39))
 have R4 := hid (mrow_lit w2 [(⟨#[48]⟩, ⟨#[49, 47, 49, 54]⟩), (⟨#[108, 97, 116, 101]⟩, ⟨#[49, 53, 47, 49, 54]⟩)] 2 rfl (by omega))
 go_wp2_with fail
 refine (PS _ _ _ (U2.out.call A4.out) R4.out).out.mono ?_; rintro e w3 ⟨rfl, hb3⟩
 go_wp2_with fail
 go_ret
 exact ⟨rfl, bnext y2.out (bnext A4.out hb3)⟩
theorem kys0 : kyS 0 = ⟨#[45, 49]⟩ := by decide +kernel
theorem kys1 : kyS 1 = ⟨#[48]⟩ := by decide +kernel
theorem kys2 : kyS 2 = ⟨#[49]⟩ := by decide +kernel
theorem sct_b1 (w : World) (x y th : Int) (a rr : ByteArray) (n : Nat) (ha : a.size ≤ 20) (hrr : rr.size ≤ 20) (hn : n ≤ 4) (hL : LayB w) :
 Calls Tryz.prog 3 #[.int .i64 x, .int .i64 y, .bool false, .int .i64 th, .string a, .string rr, .int .i64 (n : Nat)] w fun e w' => e = .returned (.bool true) ∧ Below w.heap.size w w' := by
 have HLV := hid (w_lives24 w hL)
 have HL := hid hL
 obtain ⟨i0, hi, hz0, hz1, hz2⟩ := info_parts info_intO
 obtain ⟨j0, hj, hy0, hy1, hy2⟩ := info_parts info_bits
 have t0 : decide ((20 : Int) < (a.size : Int)) = false := decide_eq_false (by omega)
 have t0r : decide ((20 : Int) < (rr.size : Int)) = false := decide_eq_false (by omega)
 have t1 : decide ((n : Int) < 0) = false := decide_eq_false (by omega)
 have t2 : decide ((4 : Int) < (n : Int)) = false := decide_eq_false (by omega)
 have t3 : decide ((3 : Int) < (n : Int)) = decide (3 < (n : Int)) := rfl
 have P1 := fun V v hv hV => hid (sp_Law V v [x] th a rr (n : Nat) hv (by omega) (by omega) hV)
 have P3 := fun V v u b hv hu hb hV => hid (sp_First V v u [x] th a rr b hv hu (by omega) (by omega) hb hV)
 have HA := hid ha; have HRR := hid hrr; have HN := hid hn
 obtain ⟨M, hM⟩ : ∃ M, n * 2 = M := ⟨_, rfl⟩
 have HM := hid hM
 have HM9 := hid (show M ≤ 8 by omega)
 have wm : IntKind.i64.wrap ((n : Int) * 2) = (M : Nat) := by rw [IntWalk.i64_in _ ⟨by omega, by omega⟩]; omega
 have HWM := hid wm
 have hm4 : ∀ W : World, (Instr.makeSlice 24 (.int .i64 4) (.int .i64 4)).run Tryz.prog W = .ok (.slice (some ⟨W.heap.size, 0, none⟩) 4 4) (W.alloc (.cells (madeCells #[.int .i64 0] 4) 3)) := make_ints 4 (by omega)
 clear hL hM hn ha hrr t3
 go_enter Tryz.func3, Tryz.ntmps3
 go_wp2_with fail
 refine HLV.out.mono ?_; rintro e w1 ⟨rfl, hb1⟩
 have y1 := hid hb1; clear hb1
 have R3 := hid (rowZ_isS w1 [x] _ 1 w1.heap.size rfl rfl rfl (by omega))
 have B3 := hid ((Below.refl w1.heap.size w1).alloc (Nat.le_refl _) (.cells #[.int .i64 x] 3))
 go_wp2_with fail
 have FB : Hid (slE [x] th a rr (n : Nat) ≠ 0 → (slR [x] th a rr (n : Nat)).length = 0) := fun h => by unfold slR; rw [if_neg h]; rfl
 have FG := hid (fun h : slE [x] th a rr (n : Nat) = 0 => sct_main h (by simp) (by have := HN.out; omega))
 rw [show n * (([x] : List Int).length + 1) = M from HM.out] at FG
 obtain ⟨E, hE⟩ : ∃ E, slE [x] th a rr (n : Nat) = E := ⟨_, rfl⟩
 obtain ⟨BL, hBL⟩ : ∃ E, slR [x] th a rr (n : Nat) = E := ⟨_, rfl⟩
 rw [hE, hBL] at P1 FB
 rw [hE, hBL] at FG
 clear hE hBL
 by_cases hE0 : E = 0
 case neg =>
  have e1 : (E == 0) = false := by simpa using hE0
  have e2 : (E != 0) = true := by simpa using hE0
  have FB := hid (FB.out hE0)
  clear hE0 FG
  refine (P1 _ _ R3.out (HL.out.call (bnext y1.out B3.out))).out.mono ?_; rintro e w4 ⟨⟨u, rfl, hu⟩, hb4⟩
  have y4 := hid (bnext y1.out (bnext B3.out hb4))
  obtain ⟨a4, k4, rfl, -, -, -⟩ := hu.ex
  rw [FB.out]
  clear hb4 hu
  go_wp2_with fail
  go_ret
  exact ⟨rfl, y4.out⟩
 case pos =>
  subst hE0
  obtain ⟨hq, hh, hf⟩ := FG.out rfl
  have HH := hid hh; have HF := hid hf
  have WP : Hid (∀ l ∈ allW M, fsE [x] th a rr ((chk n 2 l).map tb) = 0 ∧ fsA [x] th a rr ((chk n 2 l).map tb) = fsV 1 (sqO a rr th [x] ((chk n 2 l).map tb))) := fun l hl => slS_fs (c := [x]) hq (by have := HN.out; omega) ((allW_len hl).trans HM.out.symm) (allW_bits hl)
  obtain ⟨f, hff⟩ : ∃ f, slS [x] th a rr n = f := ⟨_, rfl⟩
  have HFF := hid hff
  rw [hff] at HH HF
  have PA := fun V => hid (r3_All V M (by have := HM9.out; omega))
  obtain ⟨T, hT⟩ : ∃ T, 2 ^ M = T := ⟨_, rfl⟩
  have HAL : Hid ((allW M).length = T) := by show _ = _; rw [allW_length, hT]
  have hT512 : T ≤ 512 := by rw [← hT]; exact Nat.le_trans (Nat.pow_le_pow_right (by omega) (show M ≤ 9 by have := HM9.out; omega)) (by decide)
  have HTT := hid hT; have HT5 := hid hT512
  rw [hT] at HH
  clear FG FB hq hh hf hff hT hT512
  refine (P1 _ _ R3.out (HL.out.call (bnext y1.out B3.out))).out.mono ?_; rintro e w4 ⟨⟨u, rfl, hu⟩, hb4⟩
  have y4 := hid (bnext y1.out (bnext B3.out hb4))
  have U4 := hid hu; have R4 := hid (R3.out.call hb4)
  obtain ⟨a4, k4, rfl, u1, u2, -⟩ := hu.ex
  obtain ⟨D, hD⟩ : ∃ D, BL.length = D := ⟨_, rfl⟩
  rw [hD] at U4 u1 HF ⊢
  clear hb4 hu hD
  go_wp2_with fail
  refine (PA _).out.mono ?_; rintro e w5 ⟨⟨v5, rfl, hv5⟩, hb5⟩
  have y5 := hid (bnext y4.out hb5)
  have U5 := hid (U4.out.call hb5); have R5 := hid (R4.out.call hb5)
  have V5 := hid hv5
  obtain ⟨a5, k5, rfl, s1, s2, -⟩ := hv5.openS
  rw [List.length_map, HAL.out] at V5 s1 ⊢
  clear hb5 hv5
  go_wp2_with fail
  have X4 := Blk.new w5 (madeCells #[.int .i64 0] 4) 3
  have B4 := hid ((Below.refl w5.heap.size w5).alloc (Nat.le_refl _) (.cells (madeCells #[.int .i64 0] 4) 3))
  rw [made_ints] at X4 B4 ⊢
  have X6 := hid (show Arr .i64 3 _ w5.heap.size (qC f ((allW M).take 0)) by rw [List.take_zero, qC_nil]; exact X4)
  have U6 := hid (U5.out.call B4.out); have R6 := hid (R5.out.call B4.out)
  have V6 := hid (V5.out.call B4.out)
  have y6 := hid (bnext y5.out B4.out)
  obtain ⟨w6, hw6⟩ : ∃ w6, w5.alloc (.cells (ints .i64 (List.replicate 4 0)).toArray 3) = w6 := ⟨_, rfl⟩
  obtain ⟨g, hgg⟩ : ∃ g, w5.heap.size = g := ⟨_, rfl⟩
  rw [hw6] at X6 U6 V6 R6 y6 ⊢
  rw [hgg] at X6 ⊢
  have G1 : Hid (w5.heap.size ≤ g) := by rw [← hgg]; exact Nat.le_refl _
  have W6 : Hid (Below g w5 w6) := by rw [← hgg, ← hw6]; exact (Below.refl w5.heap.size w5).alloc (Nat.le_refl _) _
  clear X4 B4 hw6 hgg
  go_loopw [21, 22, 23, 24, 25] (fun s19 s20 s21 s22 s23 wr => ∃ j : Nat, s19 = .int .i64 (j : Nat) ∧ j ≤ T ∧ Hid (Arr .i64 3 wr g (qC f ((allW M).take j))) ∧ Hid (Below g w5 wr)) (fun s19 s20 s21 s22 s23 wr => T - (intOf s19).toNat)
  case atStart => exact ⟨0, rfl, Nat.zero_le _, X6, W6⟩
  case round =>
   obtain ⟨j, rfl, hj, hX, hB⟩ := hrel
   have hB5 := hid (hB.out.mono G1.out)
   have yr := hid (bnext y5.out hB5.out)
   by_cases hlt : j < T
   ·obtain ⟨l, hl⟩ : ∃ l, (allW M)[j]? = some l := ⟨_, List.getElem?_eq_getElem (by rw [HAL.out]; exact hlt)⟩
    have hlm := List.mem_of_getElem? hl
    obtain ⟨g', o, rfl, hg', hc⟩ := V5.out.at (strs_get (show ((allW M).map tb)[j]? = some (tb l) by rw [List.getElem?_map, hl]; rfl))
    have hc2 := (hB5.out.cell (p := ⟨g', o + j, none⟩) hg').trans hc
    have HT : Hid ((allW M).take (j + 1) = (allW M).take j ++ [l]) := by show (allW M).take (j + 1) = _; rw [List.take_add_one, hl]; rfl
    have hll := allW_len hlm
    obtain ⟨q1, q2⟩ := WP.out l hlm
    have wc := hid (slS_cases [x] th a rr n l)
    obtain ⟨X, hXX⟩ : ∃ X, tb l = X := ⟨_, rfl⟩
    have sX : X.size = M := by rw [← hXX, tb_size, hll]
    rw [hXX] at hc2
    have f0 : (0 : Int) ≤ (j : Int) := by omega
    have f1 : (j : Int) < (T : Int) := by omega
    have hn4 := HN.out; have hmm := HM.out
    obtain ⟨N2, hN2⟩ : ∃ N2, 2 * n = N2 := ⟨_, rfl⟩
    have g1 : n ≤ M := by omega
    have g2 : n ≤ N2 := by omega
    have g3 : N2 ≤ M := by omega
    have w2 : IntKind.i64.wrap (2 * (n : Int)) = (N2 : Int) := by rw [IntWalk.i64_in _ ⟨by omega, by omega⟩]; omega
    have HN2 := hid hN2
    have wj : IntKind.i64.wrap ((j : Int) + 1) = ((j + 1 : Nat) : Int) := by have := HT5.out; rw [IntWalk.i64_in _ ⟨by omega, by omega⟩]; omega
    have KK : Hid (∀ w', Below wr.heap.size wr w' → w'.cell? ⟨g', o + j, none⟩ = some (.string X)) := fun w' hb => ((hB5.out.trans (hb.mono hB5.out.size)).cell (p := ⟨g', o + j, none⟩) hg').trans (by rw [← hXX]; exact hc)
    have p1 : X.extract 0 n = tb (l.take n) := by
     apply ba_ext
     rw [extract_list, tb_list, ← hXX, tb_list, List.drop_zero, Nat.sub_zero]
    have p2 : X.extract n N2 = tb ((l.drop n).take n) := by
     apply ba_ext
     rw [extract_list, tb_list, ← hXX, tb_list, show N2 - n = n by omega]
    have HBB := hid (show (chk n 2 l).map tb = [X.extract 0 n, X.extract n N2] by rw [p1, p2]; rfl)
    have HS : Hid (∀ b ∈ (chk n 2 l).map tb, b.size ≤ 100000000) := fun b hb => by
     obtain ⟨q, hq', rfl⟩ := List.mem_map.1 hb
     rw [tb_size, (chk_bits (hll.trans HM.out.symm) (allW_bits hlm) q hq').1]
     omega
    have PD := fun V v u hv hu hV => hid (P3 V v u ((chk n 2 l).map tb) hv hu HS.out hV).out
    rw [q1, q2] at PD
    have HLL := hid hll; have HXX := hid hXX; have SX := hid sX; have HJ := hid hlt
    clear hl hlm hc hc2 hg' hll hXX hn4 hmm hlt hj hN2 p1 p2 q1 q2
    go_wp2_with fail
    refine held_plain [0, 1, 2, 3, 4, 5, 6, 7, 8, 9, 10, 11, 12, 13] 2 (fun w' => w'.cell? ⟨g', o + j, none⟩ = some (.string X)) (by kernel_rfl) (by kernel_rfl) (by kernel_rfl) (by kernel_rfl) (KK.out _ (Below.refl _ _).drew) ?_
    iterate 14
     refine ⟨_, rfl, ?_⟩
     apply Exists.intro
     refine ⟨.inl ⟨by rfl, ?_⟩, ?_⟩
     ·(intro W' hW'; obtain q9 := hW'; go_simp; try (with_reducible rfl))
     (dsimp only [Act.put]; try simp only [List.setIfInBounds_toArray, List.set_cons_zero, List.set_cons_succ])
    refine held_one (i := 14) (by kernel_rfl) (by rfl) (by rfl) ?_
    go_wp2_with fail
    have d7 := hid (show Below wr.heap.size wr (wr.alloc (.cells #[.string (X.extract 0 n), .string (X.extract n N2)] 33)).drew from ((Below.refl _ _).alloc (Nat.le_refl _) _).drew)
    have k7 := hid (KK.out _ d7.out)
    have RB0 := hid (show Row (wr.alloc (.cells #[.string (X.extract 0 n), .string (X.extract n N2)] 33)).drew (.slice (some ⟨wr.heap.size, 0, none⟩) 2 2) (strs [X.extract 0 n, X.extract n N2]) from (rowB_isS wr [X.extract 0 n, X.extract n N2] _ 2 wr.heap.size rfl rfl rfl (by omega)).call ((Below.refl _ _).drew))
    have OW7 := hid (show (wr.alloc (.cells #[.string (X.extract 0 n), .string (X.extract n N2)] 33)).drew.ownsRow wr.heap.size 33 1 (.slice (some ⟨wr.heap.size, 0, none⟩) 2 2) 2 [.string (X.extract 0 n), .string (X.extract n N2)] from World.ownsRow_lit (e := 33) (size := 1) (base := wr.heap.size) wr #[.string (X.extract 0 n), .string (X.extract n N2)] 2 (Nat.le_refl _) (by unfold maxLen; omega) rfl)
    refine ⟨k7.out, ?_⟩
    obtain ⟨w7, hw7⟩ : ∃ w7, (wr.alloc (.cells #[.string (X.extract 0 n), .string (X.extract n N2)] 33)).drew = w7 := ⟨_, rfl⟩
    rw [hw7] at d7 k7 RB0 OW7 ⊢
    clear hw7
    refine held_more (is := [15]) (g := 0) (by kernel_rfl) rfl k7.out (by kernel_rfl) ?_
    iterate 1
     refine ⟨_, rfl, ?_⟩
     apply Exists.intro
     refine ⟨.inl ⟨by rfl, ?_⟩, ?_⟩
     ·(intro W' hW'; obtain q9 := hW'; go_simp; try (with_reducible rfl))
     (dsimp only [Act.put]; try simp only [List.setIfInBounds_toArray, List.set_cons_zero, List.set_cons_succ])
    refine wpAnyH_done (by kernel_rfl) ?_ _
    simp only [Only]
    have RB := hid (show Row w7 (.slice (some ⟨wr.heap.size, 0, none⟩) 2 2) (strs ((chk n 2 l).map tb)) by rw [HBB.out]; exact RB0.out)
    have d9 := d7
    go_wp2_with fail
    refine (PD _ _ _ ((R5.out.call hB5.out).call d9.out) RB.out (HL.out.call (bnext yr.out d9.out)).l).out.mono ?_; rintro e w9 ⟨rfl, hb9⟩
    have x9 := hid (bnext d9.out hb9)
    have X9 := hid (hX.out.call x9.out)
    have B9 := hid (hB.out.trans (x9.out.mono (by have := hX.out.lt; omega)))
    clear hb9
    obtain ⟨k0, hk0⟩ : ∃ k0, slS [x] th a rr n l = k0 := ⟨_, rfl⟩
    have HK0 := hid hk0
    have hfl : f l = k0 := by rw [← HFF.out]; exact hk0
    obtain ⟨c0, hc0⟩ : ∃ c0, (((allW M).take j).countP fun x => decide (f x = k0)) = c0 := ⟨_, rfl⟩
    have hc1 : c0 ≤ 512 := by
     have := List.countP_le_length (p := fun x => decide (f x = k0)) (l := (allW M).take j)
     rw [List.length_take, hc0] at this
     have := HT5.out
     omega
    have h6 : Hid (qC f ((allW M).take (j + 1)) = (qC f ((allW M).take j)).set k0 (c0 + 1)) := by show _ = _; rw [HT.out, qC_snoc, hfl, hc0]
    have hget := fun (h : k0 < 4) => (qC_get f ((allW M).take j) h)
    rw [hc0] at hget
    have wk : IntKind.i64.wrap ((c0 : Int) + 1) = ((c0 + 1 : Nat) : Int) := by rw [IntWalk.i64_in _ ⟨by omega, by omega⟩]; omega
    have HC1 := hid hc1
    have HGT := hid hget
    clear hk0 hfl hc0 hc1 hget
    rcases wc.out with hw | ⟨m, hm, hw⟩
    ·have hw' : sqO a rr th [x] ((chk n 2 l).map tb) = none := hw
     rw [hw']
     have e3 : k0 = 3 := by rw [← HK0.out]; unfold slS; rw [hw]
     subst e3
     have G3 := HGT.out (by omega)
     have m1 := X9.out.cell G3
     have m2 := X9.out.free 3
     have X10 := hid (X9.out.set 3 (c0 + 1))
     have B10 := hid (below_set B9.out (g := g) (i := 3) (Nat.le_refl _) (.int .i64 ((c0 + 1 : Nat) : Int)))
     clear hw hw' G3
     dsimp only [fsV]
     go_wp2_with fail
     go_roundw
     case rel => exact ⟨j + 1, by go_num, by have := HJ.out; omega, by rw [h6.out]; exact X10, B10⟩
     case measure => simp [intOf] <;> (have := HJ.out; omega)
    ·have hw' : sqO a rr th [x] ((chk n 2 l).map tb) = some m := hw
     rw [hw']
     have hmL : m ≤ 1 := hm
     by_cases em : m = 1
     ·have e3 : k0 = 0 := by rw [← HK0.out]; unfold slS; rw [hw]; show (if m = 1 then 0 else m + 1) = 0; rw [if_pos em]
      subst e3
      have ev : fsV 1 (some m) = (-1, true) := by unfold fsV; dsimp only; rw [if_pos em]
      rw [ev]
      have G3 := HGT.out (by omega)
      have m1 := X9.out.cell G3
      have m2 := X9.out.free 0
      have X10 := hid (X9.out.set 0 (c0 + 1))
      have B10 := hid (below_set B9.out (g := g) (i := 0) (Nat.le_refl _) (.int .i64 ((c0 + 1 : Nat) : Int)))
      clear hw hw' G3 hm hmL em ev
      dsimp only
      go_wp2_with fail
      go_roundw
      case rel => exact ⟨j + 1, by go_num, by have := HJ.out; omega, by rw [h6.out]; exact X10, B10⟩
      case measure => simp [intOf] <;> (have := HJ.out; omega)
     ·have e3 : k0 = m + 1 := by rw [← HK0.out]; unfold slS; rw [hw]; show (if m = 1 then 0 else m + 1) = m + 1; rw [if_neg em]
      subst e3
      have ev : fsV 1 (some m) = ((m : Int), true) := by unfold fsV; dsimp only; rw [if_neg em]
      rw [ev]
      have hm4 : m < 1 := by omega
      have G3 := HGT.out (by omega)
      have m1 := X9.out.cell G3
      have m2 := X9.out.free (m + 1)
      have X10 := hid (X9.out.set (m + 1) (c0 + 1))
      have B10 := hid (below_set B9.out (g := g) (i := m + 1) (Nat.le_refl _) (.int .i64 ((c0 + 1 : Nat) : Int)))
      have q5 : decide ((m : Int) < -1) = false := decide_eq_false (by omega)
      have q6 : decide ((1 : Int) ≤ (m : Int)) = false := decide_eq_false (by omega)
      have q7 : decide (1 ≤ m) = false := decide_eq_false (by omega)
      have w9 : IntKind.i64.wrap ((m : Int) + 1) = ((m + 1 : Nat) : Int) := by rw [IntWalk.i64_in _ ⟨by omega, by omega⟩]; omega
      have b3 : (0 : Int) ≤ ((m + 1 : Nat) : Int) := by omega
      have b4 : ((m + 1 : Nat) : Int) < 4 := by omega
      have b5 : (0 : Int) ≤ (m : Int) + 1 := by omega
      have b6 : (m : Int) + 1 < 4 := by omega
      clear hw hw' G3 hm hmL em ev hm4
      dsimp only
      go_wp2_with fail
      go_roundw
      case rel => exact ⟨j + 1, by go_num, by have := HJ.out; omega, by rw [h6.out]; exact X10, B10⟩
      case measure => simp [intOf] <;> (have := HJ.out; omega)
   ·obtain rfl : j = T := by omega
    have q1 : decide ((j : Int) < (j : Int)) = false := by simp
    have hT : (allW M).take j = allW M := List.take_of_length_le (by rw [HAL.out]; exact Nat.le_refl _)
    rw [hT] at hX
    obtain ⟨C, hC⟩ : ∃ C, qC f (allW M) = C := ⟨_, rfl⟩
    have hC4 : C.length = 4 := by rw [← hC]; exact qC_length _ _
    have hCle : Hid (∀ (k x : Nat), C[k]? = some x → x ≤ 512) := fun k x hx => by
     have hk4 : k < 4 := by have := (List.getElem?_eq_some_iff.1 hx).1; omega
     rw [← hC, qC_get f _ hk4] at hx
     injection hx with hx
     have := List.countP_le_length (p := fun y => decide (f y = k)) (l := allW M)
     rw [hx, HAL.out] at this
     have := HT5.out
     omega
    rw [hC] at hX HH HF
    have HC4 := hid hC4
    clear hlt hT hC hC4 hj
    go_wp2_with fail
    have KEY := hid (Blk.new wr #[.string ⟨#[45, 49]⟩, .string ⟨#[48]⟩, .string ⟨#[49]⟩, .string ⟨#[108, 97, 116, 101]⟩] 9)
    have BK := hid ((Below.refl wr.heap.size wr).alloc (Nat.le_refl _) (.cells #[.string ⟨#[45, 49]⟩, .string ⟨#[48]⟩, .string ⟨#[49]⟩, .string ⟨#[108, 97, 116, 101]⟩] 9))
    obtain ⟨gk, hgk⟩ : ∃ gk, wr.heap.size = gk := ⟨_, rfl⟩
    obtain ⟨wq, hwq⟩ : ∃ wq, wr.alloc (.cells #[.string ⟨#[45, 49]⟩, .string ⟨#[48]⟩, .string ⟨#[49]⟩, .string ⟨#[108, 97, 116, 101]⟩] 9) = wq := ⟨_, rfl⟩
    have hgX := hX.out.lt
    have XQ := hid (hX.out.call BK.out)
    have yq := hid (bnext yr.out BK.out)
    have UQ := hid (((U5.out.call hB5.out)).call BK.out)
    rw [hwq] at KEY BK XQ yq UQ ⊢
    rw [hgk] at KEY ⊢
    clear hwq hgk hgX
    go_loopw [26, 28] (fun s24 s26 wx => ∃ i : Nat, s24 = .int .i64 (fnN C i : Nat) ∧ s26 = .int .i64 (i : Nat) ∧ i ≤ 4 ∧ Hid (Below wq.heap.size wq wx)) (fun s24 s26 wx => 4 - (intOf s26).toNat)
    case atStart => exact ⟨0, rfl, rfl, Nat.zero_le _, Below.refl _ _⟩
    case round =>
     obtain ⟨i, rfl, rfl, hi4, hBx⟩ := hrel
     by_cases hlt : i < 4
     ·obtain ⟨v, hv⟩ : ∃ v, C[i]? = some v := ⟨_, List.getElem?_eq_getElem (by rw [HC4.out]; exact hlt)⟩
      have m1 := (XQ.out.call hBx.out).cell hv
      have hst := fnN_step hv
      have hle := fnN_le C i HC4.out
      have hv5 := hCle.out i v hv
      have hhs := fun h => HH.out i v hv h
      have ky : wq.cell? ⟨gk, i, none⟩ = some (.string (kyS i)) := by
       have := KEY.out.cell i
       match i, hlt, this with
       | 0, _, h => exact h.trans (by rw [kys0]; rfl)
       | 1, _, h => exact h.trans (by rw [kys1]; rfl)
       | 2, _, h => exact h.trans (by rw [kys2]; rfl)
       | 3, _, h => exact h
      have kl : gk < wq.heap.size := cell_lt ky
      obtain ⟨F, hF⟩ : ∃ F, fnN C i = F := ⟨_, rfl⟩
      have HFi := hid hF
      rw [hF] at hst hle ⊢
      have b1 : (0 : Int) ≤ (i : Int) := by omega
      have b2 : (i : Int) < 4 := by omega
      have wi : IntKind.i64.wrap ((i : Int) + 1) = ((i + 1 : Nat) : Int) := by rw [IntWalk.i64_in _ ⟨by omega, by omega⟩]; omega
      have wf : IntKind.i64.wrap ((F : Int) + 1) = ((F + 1 : Nat) : Int) := by rw [IntWalk.i64_in _ ⟨by omega, by omega⟩]; omega
      have HI := hid hlt
      by_cases h0 : v = 0
      ·have q5 : decide ((0 : Int) < (v : Int)) = false := by simp [h0]
       have q6 : decide (0 < v) = false := by simp [h0]
       rw [if_neg (by omega)] at hst
       have h8 := hid hst
       clear hF hv hst hle hv5 hhs ky kl h0 hlt hi4
       go_wp2_with fail
       go_roundw
       case rel => exact ⟨i + 1, by rw [h8.out], by go_num, by have := HI.out; omega, hBx⟩
       case measure => simp [intOf] <;> (have := HI.out; omega)
      ·have q5 : decide ((0 : Int) < (v : Int)) = true := by simp; omega
       have q6 : decide (0 < v) = true := by simp; omega
       rw [if_pos (by omega)] at hst
       have h8 := hid hst
       have h9 := hhs (by omega)
       have PS := fun V => hid (r21_ShareS V v M (by omega) (by have := HM9.out; omega))
       rw [HTT.out] at PS
       obtain ⟨S0, hS0⟩ : ∃ s, shB v j = s := ⟨_, rfl⟩
       obtain ⟨KB, hKB⟩ : ∃ s, kyS i = s := ⟨_, rfl⟩
       rw [hS0] at PS h9
       rw [hKB] at h9 ky
       have PH := fun V u hu => hid (k_HasM V u BL KB S0 hu)
       rw [h9] at PH
       have K2 : Hid (∀ w', Below wr.heap.size wr w' → w'.cell? ⟨gk, i, none⟩ = some (.string KB) ∧ w'.cell? ⟨g, i, none⟩ = some (.int .i64 (v : Nat))) := fun w' hb => ⟨((hBx.out.trans (hb.mono hBx.out.size)).cell (p := ⟨gk, i, none⟩) kl).trans ky, ((XQ.out.call hBx.out).call hb).cell hv⟩
       clear hF hv hst hle hv5 hhs ky kl h0 hlt hi4 h9 hS0 hKB
       go_wp2_with fail
       refine held_plain [0, 1, 2, 3, 4, 5, 6, 7, 8, 9, 10, 11, 12, 13] 4 (fun w' => w'.cell? ⟨gk, i, none⟩ = some (.string KB) ∧ w'.cell? ⟨g, i, none⟩ = some (.int .i64 (v : Nat))) (by kernel_rfl) (by kernel_rfl) (by kernel_rfl) (by kernel_rfl) (K2.out _ (Below.refl _ _).drew) ?_
       iterate 14
        refine ⟨_, rfl, ?_⟩
        apply Exists.intro
        refine ⟨.inl ⟨by rfl, ?_⟩, ?_⟩
        ·(intro W' hW'; obtain ⟨q8, q9⟩ := hW'; go_simp; try (with_reducible rfl))
        (dsimp only [Act.put]; try simp only [List.setIfInBounds_toArray, List.set_cons_zero, List.set_cons_succ])
       refine held_one (i := 14) (by kernel_rfl) (by rfl) (by rfl) ?_
       go_wp2_with fail
       rw [show RowKit.wrap64 ((n : Int) * 2) = ((M : Nat) : Int) from (IntWalk.i64_left _).symm.trans HWM.out]
       refine (PS _).out.mono ?_; rintro e w8 ⟨rfl, hb8⟩
       have x8 := hid (show Below wr.heap.size wr w8 from (Below.refl _ _).drew.trans hb8)
       clear hb8
       go_wp2_with fail
       refine ⟨K2.out _ x8.out, ?_⟩
       refine held_more (is := [15]) (g := 2) (by kernel_rfl) rfl (K2.out _ x8.out) (by kernel_rfl) ?_
       iterate 1
        refine ⟨_, rfl, ?_⟩
        apply Exists.intro
        refine ⟨.inl ⟨by rfl, ?_⟩, ?_⟩
        ·(intro W' hW'; obtain ⟨q8, q9⟩ := hW'; go_simp; try (with_reducible rfl))
        (dsimp only [Act.put]; try simp only [List.setIfInBounds_toArray, List.set_cons_zero, List.set_cons_succ])
       refine held_one (i := 16) (by kernel_rfl) (by rfl) (by rfl) ?_
       go_wp2_with fail
       refine (PH _ _ ((UQ.out.call hBx.out).call x8.out)).out.mono ?_; rintro e w9 ⟨rfl, hb9⟩
       have x9 := hid (bnext x8.out hb9)
       clear hb9
       go_wp2_with fail
       refine ⟨K2.out _ x9.out, ?_⟩
       refine held_more (is := [17]) (g := 0) (by kernel_rfl) rfl (K2.out _ x9.out) (by kernel_rfl) ?_
       iterate 1
        refine ⟨_, rfl, ?_⟩
        apply Exists.intro
        refine ⟨.inl ⟨by rfl, ?_⟩, ?_⟩
        ·(intro W' hW'; obtain ⟨q8, q9⟩ := hW'; go_simp; try (with_reducible rfl))
        (dsimp only [Act.put]; try simp only [List.setIfInBounds_toArray, List.set_cons_zero, List.set_cons_succ])
       refine wpAnyH_done (by kernel_rfl) ?_ _
       simp only [Only]
       go_wp2_with fail
       go_roundw
       case rel => exact ⟨i + 1, by rw [h8.out]; go_num, by go_num, by have := HI.out; omega, hid (bnext hBx.out x9.out)⟩
       case measure => simp [intOf] <;> (have := HI.out; omega)
     ·obtain rfl : i = 4 := by omega
      rw [HF.out]
      clear hlt hi4
      go_wp2_with fail
      go_ret
      exact ⟨rfl, bnext yq.out hBx.out⟩
theorem sct_b2 (w : World) (x y th : Int) (a rr : ByteArray) (n : Nat) (ha : a.size ≤ 20) (hrr : rr.size ≤ 20) (hn : n ≤ 3) (hL : LayB w) :
 Calls Tryz.prog 3 #[.int .i64 x, .int .i64 y, .bool true, .int .i64 th, .string a, .string rr, .int .i64 (n : Nat)] w fun e w' => e = .returned (.bool true) ∧ Below w.heap.size w w' := by
 have HLV := hid (w_lives24 w hL)
 have HL := hid hL
 obtain ⟨i0, hi, hz0, hz1, hz2⟩ := info_parts info_intO
 obtain ⟨j0, hj, hy0, hy1, hy2⟩ := info_parts info_bits
 have t0 : decide ((20 : Int) < (a.size : Int)) = false := decide_eq_false (by omega)
 have t0r : decide ((20 : Int) < (rr.size : Int)) = false := decide_eq_false (by omega)
 have t1 : decide ((n : Int) < 0) = false := decide_eq_false (by omega)
 have t2 : decide ((4 : Int) < (n : Int)) = false := decide_eq_false (by omega)
 have t3 : decide ((3 : Int) < (n : Int)) = false := decide_eq_false (by omega)
 have P1 := fun V v hv hV => hid (sp_Law V v [x, y] th a rr (n : Nat) hv (by omega) (by omega) hV)
 have P3 := fun V v u b hv hu hb hV => hid (sp_First V v u [x, y] th a rr b hv hu (by omega) (by omega) hb hV)
 have HA := hid ha; have HRR := hid hrr; have HN := hid hn
 obtain ⟨M, hM⟩ : ∃ M, n * 3 = M := ⟨_, rfl⟩
 have HM := hid hM
 have HM9 := hid (show M ≤ 9 by omega)
 have wm : IntKind.i64.wrap ((n : Int) * 3) = (M : Nat) := by rw [IntWalk.i64_in _ ⟨by omega, by omega⟩]; omega
 have HWM := hid wm
 have hm4 : ∀ W : World, (Instr.makeSlice 24 (.int .i64 4) (.int .i64 4)).run Tryz.prog W = .ok (.slice (some ⟨W.heap.size, 0, none⟩) 4 4) (W.alloc (.cells (madeCells #[.int .i64 0] 4) 3)) := make_ints 4 (by omega)
 clear hL hM hn ha hrr
 go_enter Tryz.func3, Tryz.ntmps3
 go_wp2_with fail
 refine HLV.out.mono ?_; rintro e w1 ⟨rfl, hb1⟩
 have y1 := hid hb1; clear hb1
 have OW := hid (World.ownsRow_lit (e := 3) (size := 1) (base := w1.heap.size) w1 #[.int .i64 x] 1 (Nat.le_refl _) (by unfold maxLen; omega) rfl)
 have BW := hid ((Below.refl w1.heap.size w1).alloc (Nat.le_refl _) (.cells #[.int .i64 x] 3))
 have OW2 := hid (owns_call OW.out ((Below.refl _ _).alloc (Nat.le_refl _) (.cells #[.int .i64 y] 3)))
 have BW2 := hid (BW.out.alloc BW.out.size (.cells #[.int .i64 y] 3))
 go_wp2_with (at_builtin; refine wpList_append_own_at _ rfl _ _ 24 rfl w1.heap.size 3 i0 (.int .i64 0) 1 8 Tryz.underlying24 hi hz0 hz1 hz2 rfl (by decide) _ 1 [.int .i64 x] rfl OW2.out ⟨w1.heap.size + 1, 0, none⟩ 1 1 [.int .i64 y] rfl rfl (news_blk (by simpa using Blk.new (w1.alloc (.cells #[.int .i64 x] 3)) #[.int .i64 y] 3)) (by simp [Value.oneCell']) (by unfold maxLen; omega) (by omega) (by simp; omega) ?_
              intro v1' w3 hown hgrow _ hat
              have O3 := hid hown
              have B3 := hid (owned_below OW2.out BW2.out hgrow)
              obtain ⟨e3, r3, rfl⟩ := owns_ex hown
              have R3 := hid (show Row w3 (.slice e3 2 r3) (zs [x, y]) from Row.of_owns O3.out)
              clear hown hgrow hat O3)
 have FB : Hid (slE [x, y] th a rr (n : Nat) ≠ 0 → (slR [x, y] th a rr (n : Nat)).length = 0) := fun h => by unfold slR; rw [if_neg h]; rfl
 have FG := hid (fun h : slE [x, y] th a rr (n : Nat) = 0 => sct_main h (by simp) (by have := HN.out; omega))
 rw [show n * (([x, y] : List Int).length + 1) = M from HM.out] at FG
 obtain ⟨E, hE⟩ : ∃ E, slE [x, y] th a rr (n : Nat) = E := ⟨_, rfl⟩
 obtain ⟨BL, hBL⟩ : ∃ E, slR [x, y] th a rr (n : Nat) = E := ⟨_, rfl⟩
 rw [hE, hBL] at P1 FB
 rw [hE, hBL] at FG
 clear hE hBL
 by_cases hE0 : E = 0
 case neg =>
  have e1 : (E == 0) = false := by simpa using hE0
  have e2 : (E != 0) = true := by simpa using hE0
  have FB := hid (FB.out hE0)
  clear hE0 FG
  refine (P1 _ _ R3.out (HL.out.call (bnext y1.out B3.out))).out.mono ?_; rintro e w4 ⟨⟨u, rfl, hu⟩, hb4⟩
  have y4 := hid (bnext y1.out (bnext B3.out hb4))
  obtain ⟨a4, k4, rfl, -, -, -⟩ := hu.ex
  rw [FB.out]
  clear hb4 hu
  go_wp2_with fail
  go_ret
  exact ⟨rfl, y4.out⟩
 case pos =>
  subst hE0
  obtain ⟨hq, hh, hf⟩ := FG.out rfl
  have HH := hid hh; have HF := hid hf
  have WP : Hid (∀ l ∈ allW M, fsE [x, y] th a rr ((chk n 3 l).map tb) = 0 ∧ fsA [x, y] th a rr ((chk n 3 l).map tb) = fsV 2 (sqO a rr th [x, y] ((chk n 3 l).map tb))) := fun l hl => slS_fs (c := [x, y]) hq (by have := HN.out; omega) ((allW_len hl).trans HM.out.symm) (allW_bits hl)
  obtain ⟨f, hff⟩ : ∃ f, slS [x, y] th a rr n = f := ⟨_, rfl⟩
  have HFF := hid hff
  rw [hff] at HH HF
  have PA := fun V => hid (r3_All V M (by have := HM9.out; omega))
  obtain ⟨T, hT⟩ : ∃ T, 2 ^ M = T := ⟨_, rfl⟩
  have HAL : Hid ((allW M).length = T) := by show _ = _; rw [allW_length, hT]
  have hT512 : T ≤ 512 := by rw [← hT]; exact Nat.le_trans (Nat.pow_le_pow_right (by omega) (show M ≤ 9 by have := HM9.out; omega)) (by decide)
  have HTT := hid hT; have HT5 := hid hT512
  rw [hT] at HH
  clear FG FB hq hh hf hff hT hT512
  refine (P1 _ _ R3.out (HL.out.call (bnext y1.out B3.out))).out.mono ?_; rintro e w4 ⟨⟨u, rfl, hu⟩, hb4⟩
  have y4 := hid (bnext y1.out (bnext B3.out hb4))
  have U4 := hid hu; have R4 := hid (R3.out.call hb4)
  obtain ⟨a4, k4, rfl, u1, u2, -⟩ := hu.ex
  obtain ⟨D, hD⟩ : ∃ D, BL.length = D := ⟨_, rfl⟩
  rw [hD] at U4 u1 HF ⊢
  clear hb4 hu hD
  go_wp2_with fail
  refine (PA _).out.mono ?_; rintro e w5 ⟨⟨v5, rfl, hv5⟩, hb5⟩
  have y5 := hid (bnext y4.out hb5)
  have U5 := hid (U4.out.call hb5); have R5 := hid (R4.out.call hb5)
  have V5 := hid hv5
  obtain ⟨a5, k5, rfl, s1, s2, -⟩ := hv5.openS
  rw [List.length_map, HAL.out] at V5 s1 ⊢
  clear hb5 hv5
  go_wp2_with fail
  have X4 := Blk.new w5 (madeCells #[.int .i64 0] 4) 3
  have B4 := hid ((Below.refl w5.heap.size w5).alloc (Nat.le_refl _) (.cells (madeCells #[.int .i64 0] 4) 3))
  rw [made_ints] at X4 B4 ⊢
  have X6 := hid (show Arr .i64 3 _ w5.heap.size (qC f ((allW M).take 0)) by rw [List.take_zero, qC_nil]; exact X4)
  have U6 := hid (U5.out.call B4.out); have R6 := hid (R5.out.call B4.out)
  have V6 := hid (V5.out.call B4.out)
  have y6 := hid (bnext y5.out B4.out)
  obtain ⟨w6, hw6⟩ : ∃ w6, w5.alloc (.cells (ints .i64 (List.replicate 4 0)).toArray 3) = w6 := ⟨_, rfl⟩
  obtain ⟨g, hgg⟩ : ∃ g, w5.heap.size = g := ⟨_, rfl⟩
  rw [hw6] at X6 U6 V6 R6 y6 ⊢
  rw [hgg] at X6 ⊢
  have G1 : Hid (w5.heap.size ≤ g) := by rw [← hgg]; exact Nat.le_refl _
  have W6 : Hid (Below g w5 w6) := by rw [← hgg, ← hw6]; exact (Below.refl w5.heap.size w5).alloc (Nat.le_refl _) _
  clear X4 B4 hw6 hgg
  go_loopw [21, 22, 23, 24, 25] (fun s19 s20 s21 s22 s23 wr => ∃ j : Nat, s19 = .int .i64 (j : Nat) ∧ j ≤ T ∧ Hid (Arr .i64 3 wr g (qC f ((allW M).take j))) ∧ Hid (Below g w5 wr)) (fun s19 s20 s21 s22 s23 wr => T - (intOf s19).toNat)
  case atStart => exact ⟨0, rfl, Nat.zero_le _, X6, W6⟩
  case round =>
   obtain ⟨j, rfl, hj, hX, hB⟩ := hrel
   have hB5 := hid (hB.out.mono G1.out)
   have yr := hid (bnext y5.out hB5.out)
   by_cases hlt : j < T
   ·obtain ⟨l, hl⟩ : ∃ l, (allW M)[j]? = some l := ⟨_, List.getElem?_eq_getElem (by rw [HAL.out]; exact hlt)⟩
    have hlm := List.mem_of_getElem? hl
    obtain ⟨g', o, rfl, hg', hc⟩ := V5.out.at (strs_get (show ((allW M).map tb)[j]? = some (tb l) by rw [List.getElem?_map, hl]; rfl))
    have hc2 := (hB5.out.cell (p := ⟨g', o + j, none⟩) hg').trans hc
    have HT : Hid ((allW M).take (j + 1) = (allW M).take j ++ [l]) := by show (allW M).take (j + 1) = _; rw [List.take_add_one, hl]; rfl
    have hll := allW_len hlm
    obtain ⟨q1, q2⟩ := WP.out l hlm
    have wc := hid (slS_cases [x, y] th a rr n l)
    obtain ⟨X, hXX⟩ : ∃ X, tb l = X := ⟨_, rfl⟩
    have sX : X.size = M := by rw [← hXX, tb_size, hll]
    rw [hXX] at hc2
    have f0 : (0 : Int) ≤ (j : Int) := by omega
    have f1 : (j : Int) < (T : Int) := by omega
    have hn4 := HN.out; have hmm := HM.out
    obtain ⟨N2, hN2⟩ : ∃ N2, 2 * n = N2 := ⟨_, rfl⟩
    have g1 : n ≤ M := by omega
    have g2 : n ≤ N2 := by omega
    have g3 : N2 ≤ M := by omega
    have w2 : IntKind.i64.wrap (2 * (n : Int)) = (N2 : Int) := by rw [IntWalk.i64_in _ ⟨by omega, by omega⟩]; omega
    have HN2 := hid hN2
    have wj : IntKind.i64.wrap ((j : Int) + 1) = ((j + 1 : Nat) : Int) := by have := HT5.out; rw [IntWalk.i64_in _ ⟨by omega, by omega⟩]; omega
    have KK : Hid (∀ w', Below wr.heap.size wr w' → w'.cell? ⟨g', o + j, none⟩ = some (.string X)) := fun w' hb => ((hB5.out.trans (hb.mono hB5.out.size)).cell (p := ⟨g', o + j, none⟩) hg').trans (by rw [← hXX]; exact hc)
    have p1 : X.extract 0 n = tb (l.take n) := by
     apply ba_ext
     rw [extract_list, tb_list, ← hXX, tb_list, List.drop_zero, Nat.sub_zero]
    have p2 : X.extract n N2 = tb ((l.drop n).take n) := by
     apply ba_ext
     rw [extract_list, tb_list, ← hXX, tb_list, show N2 - n = n by omega]
    have p3 : X.extract N2 M = tb (((l.drop n).drop n).take n) := by
     apply ba_ext
     rw [extract_list, tb_list, ← hXX, tb_list, List.drop_drop, show M - N2 = n by omega, show n + n = N2 by omega]
    have HBB := hid (show (chk n 3 l).map tb = [X.extract 0 n, X.extract n N2, X.extract N2 M] by rw [p1, p2, p3]; rfl)
    have HS : Hid (∀ b ∈ (chk n 3 l).map tb, b.size ≤ 100000000) := fun b hb => by
     obtain ⟨q, hq', rfl⟩ := List.mem_map.1 hb
     rw [tb_size, (chk_bits (hll.trans HM.out.symm) (allW_bits hlm) q hq').1]
     omega
    have PD := fun V v u hv hu hV => hid (P3 V v u ((chk n 3 l).map tb) hv hu HS.out hV).out
    rw [q1, q2] at PD
    have HLL := hid hll; have HXX := hid hXX; have SX := hid sX; have HJ := hid hlt
    clear hl hlm hc hc2 hg' hll hXX hn4 hmm hlt hj hN2 p1 p2 p3 q1 q2
    go_wp2_with fail
    refine held_plain [0, 1, 2, 3, 4, 5, 6, 7, 8, 9, 10, 11, 12, 13] 2 (fun w' => w'.cell? ⟨g', o + j, none⟩ = some (.string X)) (by kernel_rfl) (by kernel_rfl) (by kernel_rfl) (by kernel_rfl) (KK.out _ (Below.refl _ _).drew) ?_
    iterate 14
     refine ⟨_, rfl, ?_⟩
     apply Exists.intro
     refine ⟨.inl ⟨by rfl, ?_⟩, ?_⟩
     ·(intro W' hW'; obtain q9 := hW'; go_simp; try (with_reducible rfl))
     (dsimp only [Act.put]; try simp only [List.setIfInBounds_toArray, List.set_cons_zero, List.set_cons_succ])
    refine held_one (i := 14) (by kernel_rfl) (by rfl) (by rfl) ?_
    go_wp2_with fail
    have d7 := hid (show Below wr.heap.size wr (wr.alloc (.cells #[.string (X.extract 0 n), .string (X.extract n N2)] 33)).drew from ((Below.refl _ _).alloc (Nat.le_refl _) _).drew)
    have k7 := hid (KK.out _ d7.out)
    have RB0 := hid (show Row (wr.alloc (.cells #[.string (X.extract 0 n), .string (X.extract n N2)] 33)).drew (.slice (some ⟨wr.heap.size, 0, none⟩) 2 2) (strs [X.extract 0 n, X.extract n N2]) from (rowB_isS wr [X.extract 0 n, X.extract n N2] _ 2 wr.heap.size rfl rfl rfl (by omega)).call ((Below.refl _ _).drew))
    have OW7 := hid (show (wr.alloc (.cells #[.string (X.extract 0 n), .string (X.extract n N2)] 33)).drew.ownsRow wr.heap.size 33 1 (.slice (some ⟨wr.heap.size, 0, none⟩) 2 2) 2 [.string (X.extract 0 n), .string (X.extract n N2)] from World.ownsRow_lit (e := 33) (size := 1) (base := wr.heap.size) wr #[.string (X.extract 0 n), .string (X.extract n N2)] 2 (Nat.le_refl _) (by unfold maxLen; omega) rfl)
    refine ⟨k7.out, ?_⟩
    obtain ⟨w7, hw7⟩ : ∃ w7, (wr.alloc (.cells #[.string (X.extract 0 n), .string (X.extract n N2)] 33)).drew = w7 := ⟨_, rfl⟩
    rw [hw7] at d7 k7 RB0 OW7 ⊢
    clear hw7
    refine held_more (is := [15]) (g := 0) (by kernel_rfl) rfl k7.out (by kernel_rfl) ?_
    iterate 1
     refine ⟨_, rfl, ?_⟩
     apply Exists.intro
     refine ⟨.inl ⟨by rfl, ?_⟩, ?_⟩
     ·(intro W' hW'; obtain q9 := hW'; go_simp; try (with_reducible rfl))
     (dsimp only [Act.put]; try simp only [List.setIfInBounds_toArray, List.set_cons_zero, List.set_cons_succ])
    refine wpAnyH_done (by kernel_rfl) ?_ _
    simp only [Only]
    have c7 := k7.out
    have OW8 := hid (owns_call OW7.out ((Below.refl _ _).alloc (Nat.le_refl _) (.cells #[.string (X.extract N2 M)] 33)))
    have d8 := hid (d7.out.alloc d7.out.size (.cells #[.string (X.extract N2 M)] 33))
    go_wp2_with (at_builtin; refine wpList_append_own_at _ rfl _ _ 30 rfl wr.heap.size 33 j0 (.string ⟨#[]⟩) 1 16 Tryz.underlying30 hj hy0 hy1 hy2 rfl (by decide) _ 2 [.string (X.extract 0 n), .string (X.extract n N2)] rfl OW8.out ⟨w7.heap.size, 0, none⟩ 1 1 [.string (X.extract N2 M)] rfl rfl (news_blk (Blk.new w7 #[.string (X.extract N2 M)] 33)) (by simp [Value.oneCell']) (by unfold maxLen; omega) (by omega) (by exact d8.out.size) ?_
                 intro v8' w8 hown hgrow _ hat
                 have d9 := hid (owned_below OW8.out d8.out hgrow)
                 obtain ⟨e8, r8, rfl⟩ := owns_ex hown
                 have RB := hid (show Row w8 (.slice e8 3 r8) (strs ((chk n 3 l).map tb)) from by rw [HBB.out]; exact Row.of_owns hown)
                 clear hown hgrow hat)
    refine (PD _ _ _ ((R5.out.call hB5.out).call d9.out) RB.out (HL.out.call (bnext yr.out d9.out)).l).out.mono ?_; rintro e w9 ⟨rfl, hb9⟩
    have x9 := hid (bnext d9.out hb9)
    have X9 := hid (hX.out.call x9.out)
    have B9 := hid (hB.out.trans (x9.out.mono (by have := hX.out.lt; omega)))
    clear hb9
    obtain ⟨k0, hk0⟩ : ∃ k0, slS [x, y] th a rr n l = k0 := ⟨_, rfl⟩
    have HK0 := hid hk0
    have hfl : f l = k0 := by rw [← HFF.out]; exact hk0
    obtain ⟨c0, hc0⟩ : ∃ c0, (((allW M).take j).countP fun x => decide (f x = k0)) = c0 := ⟨_, rfl⟩
    have hc1 : c0 ≤ 512 := by
     have := List.countP_le_length (p := fun x => decide (f x = k0)) (l := (allW M).take j)
     rw [List.length_take, hc0] at this
     have := HT5.out
     omega
    have h6 : Hid (qC f ((allW M).take (j + 1)) = (qC f ((allW M).take j)).set k0 (c0 + 1)) := by show _ = _; rw [HT.out, qC_snoc, hfl, hc0]
    have hget := fun (h : k0 < 4) => (qC_get f ((allW M).take j) h)
    rw [hc0] at hget
    have wk : IntKind.i64.wrap ((c0 : Int) + 1) = ((c0 + 1 : Nat) : Int) := by rw [IntWalk.i64_in _ ⟨by omega, by omega⟩]; omega
    have HC1 := hid hc1
    have HGT := hid hget
    clear hk0 hfl hc0 hc1 hget
    rcases wc.out with hw | ⟨m, hm, hw⟩
    ·have hw' : sqO a rr th [x, y] ((chk n 3 l).map tb) = none := hw
     rw [hw']
     have e3 : k0 = 3 := by rw [← HK0.out]; unfold slS; rw [hw]
     subst e3
     have G3 := HGT.out (by omega)
     have m1 := X9.out.cell G3
     have m2 := X9.out.free 3
     have X10 := hid (X9.out.set 3 (c0 + 1))
     have B10 := hid (below_set B9.out (g := g) (i := 3) (Nat.le_refl _) (.int .i64 ((c0 + 1 : Nat) : Int)))
     clear hw hw' G3
     dsimp only [fsV]
     go_wp2_with fail
     go_roundw
     case rel => exact ⟨j + 1, by go_num, by have := HJ.out; omega, by rw [h6.out]; exact X10, B10⟩
     case measure => simp [intOf] <;> (have := HJ.out; omega)
    ·have hw' : sqO a rr th [x, y] ((chk n 3 l).map tb) = some m := hw
     rw [hw']
     have hmL : m ≤ 2 := hm
     by_cases em : m = 2
     ·have e3 : k0 = 0 := by rw [← HK0.out]; unfold slS; rw [hw]; show (if m = 2 then 0 else m + 1) = 0; rw [if_pos em]
      subst e3
      have ev : fsV 2 (some m) = (-1, true) := by unfold fsV; dsimp only; rw [if_pos em]
      rw [ev]
      have G3 := HGT.out (by omega)
      have m1 := X9.out.cell G3
      have m2 := X9.out.free 0
      have X10 := hid (X9.out.set 0 (c0 + 1))
      have B10 := hid (below_set B9.out (g := g) (i := 0) (Nat.le_refl _) (.int .i64 ((c0 + 1 : Nat) : Int)))
      clear hw hw' G3 hm hmL em ev
      dsimp only
      go_wp2_with fail
      go_roundw
      case rel => exact ⟨j + 1, by go_num, by have := HJ.out; omega, by rw [h6.out]; exact X10, B10⟩
      case measure => simp [intOf] <;> (have := HJ.out; omega)
     ·have e3 : k0 = m + 1 := by rw [← HK0.out]; unfold slS; rw [hw]; show (if m = 2 then 0 else m + 1) = m + 1; rw [if_neg em]
      subst e3
      have ev : fsV 2 (some m) = ((m : Int), true) := by unfold fsV; dsimp only; rw [if_neg em]
      rw [ev]
      have hm4 : m < 2 := by omega
      have G3 := HGT.out (by omega)
      have m1 := X9.out.cell G3
      have m2 := X9.out.free (m + 1)
      have X10 := hid (X9.out.set (m + 1) (c0 + 1))
      have B10 := hid (below_set B9.out (g := g) (i := m + 1) (Nat.le_refl _) (.int .i64 ((c0 + 1 : Nat) : Int)))
      have q5 : decide ((m : Int) < -1) = false := decide_eq_false (by omega)
      have q6 : decide ((2 : Int) ≤ (m : Int)) = false := decide_eq_false (by omega)
      have q7 : decide (2 ≤ m) = false := decide_eq_false (by omega)
      have w9 : IntKind.i64.wrap ((m : Int) + 1) = ((m + 1 : Nat) : Int) := by rw [IntWalk.i64_in _ ⟨by omega, by omega⟩]; omega
      have b3 : (0 : Int) ≤ ((m + 1 : Nat) : Int) := by omega
      have b4 : ((m + 1 : Nat) : Int) < 4 := by omega
      have b5 : (0 : Int) ≤ (m : Int) + 1 := by omega
      have b6 : (m : Int) + 1 < 4 := by omega
      clear hw hw' G3 hm hmL em ev hm4
      dsimp only
      go_wp2_with fail
      go_roundw
      case rel => exact ⟨j + 1, by go_num, by have := HJ.out; omega, by rw [h6.out]; exact X10, B10⟩
      case measure => simp [intOf] <;> (have := HJ.out; omega)
   ·obtain rfl : j = T := by omega
    have q1 : decide ((j : Int) < (j : Int)) = false := by simp
    have hT : (allW M).take j = allW M := List.take_of_length_le (by rw [HAL.out]; exact Nat.le_refl _)
    rw [hT] at hX
    obtain ⟨C, hC⟩ : ∃ C, qC f (allW M) = C := ⟨_, rfl⟩
    have hC4 : C.length = 4 := by rw [← hC]; exact qC_length _ _
    have hCle : Hid (∀ (k x : Nat), C[k]? = some x → x ≤ 512) := fun k x hx => by
     have hk4 : k < 4 := by have := (List.getElem?_eq_some_iff.1 hx).1; omega
     rw [← hC, qC_get f _ hk4] at hx
     injection hx with hx
     have := List.countP_le_length (p := fun y => decide (f y = k)) (l := allW M)
     rw [hx, HAL.out] at this
     have := HT5.out
     omega
    rw [hC] at hX HH HF
    have HC4 := hid hC4
    clear hlt hT hC hC4 hj
    go_wp2_with fail
    have KEY := hid (Blk.new wr #[.string ⟨#[45, 49]⟩, .string ⟨#[48]⟩, .string ⟨#[49]⟩, .string ⟨#[108, 97, 116, 101]⟩] 9)
    have BK := hid ((Below.refl wr.heap.size wr).alloc (Nat.le_refl _) (.cells #[.string ⟨#[45, 49]⟩, .string ⟨#[48]⟩, .string ⟨#[49]⟩, .string ⟨#[108, 97, 116, 101]⟩] 9))
    obtain ⟨gk, hgk⟩ : ∃ gk, wr.heap.size = gk := ⟨_, rfl⟩
    obtain ⟨wq, hwq⟩ : ∃ wq, wr.alloc (.cells #[.string ⟨#[45, 49]⟩, .string ⟨#[48]⟩, .string ⟨#[49]⟩, .string ⟨#[108, 97, 116, 101]⟩] 9) = wq := ⟨_, rfl⟩
    have hgX := hX.out.lt
    have XQ := hid (hX.out.call BK.out)
    have yq := hid (bnext yr.out BK.out)
    have UQ := hid (((U5.out.call hB5.out)).call BK.out)
    rw [hwq] at KEY BK XQ yq UQ ⊢
    rw [hgk] at KEY ⊢
    clear hwq hgk hgX
    go_loopw [26, 28] (fun s24 s26 wx => ∃ i : Nat, s24 = .int .i64 (fnN C i : Nat) ∧ s26 = .int .i64 (i : Nat) ∧ i ≤ 4 ∧ Hid (Below wq.heap.size wq wx)) (fun s24 s26 wx => 4 - (intOf s26).toNat)
    case atStart => exact ⟨0, rfl, rfl, Nat.zero_le _, Below.refl _ _⟩
    case round =>
     obtain ⟨i, rfl, rfl, hi4, hBx⟩ := hrel
     by_cases hlt : i < 4
     ·obtain ⟨v, hv⟩ : ∃ v, C[i]? = some v := ⟨_, List.getElem?_eq_getElem (by rw [HC4.out]; exact hlt)⟩
      have m1 := (XQ.out.call hBx.out).cell hv
      have hst := fnN_step hv
      have hle := fnN_le C i HC4.out
      have hv5 := hCle.out i v hv
      have hhs := fun h => HH.out i v hv h
      have ky : wq.cell? ⟨gk, i, none⟩ = some (.string (kyS i)) := by
       have := KEY.out.cell i
       match i, hlt, this with
       | 0, _, h => exact h.trans (by rw [kys0]; rfl)
       | 1, _, h => exact h.trans (by rw [kys1]; rfl)
       | 2, _, h => exact h.trans (by rw [kys2]; rfl)
       | 3, _, h => exact h
      have kl : gk < wq.heap.size := cell_lt ky
      obtain ⟨F, hF⟩ : ∃ F, fnN C i = F := ⟨_, rfl⟩
      have HFi := hid hF
      rw [hF] at hst hle ⊢
      have b1 : (0 : Int) ≤ (i : Int) := by omega
      have b2 : (i : Int) < 4 := by omega
      have wi : IntKind.i64.wrap ((i : Int) + 1) = ((i + 1 : Nat) : Int) := by rw [IntWalk.i64_in _ ⟨by omega, by omega⟩]; omega
      have wf : IntKind.i64.wrap ((F : Int) + 1) = ((F + 1 : Nat) : Int) := by rw [IntWalk.i64_in _ ⟨by omega, by omega⟩]; omega
      have HI := hid hlt
      by_cases h0 : v = 0
      ·have q5 : decide ((0 : Int) < (v : Int)) = false := by simp [h0]
       have q6 : decide (0 < v) = false := by simp [h0]
       rw [if_neg (by omega)] at hst
       have h8 := hid hst
       clear hF hv hst hle hv5 hhs ky kl h0 hlt hi4
       go_wp2_with fail
       go_roundw
       case rel => exact ⟨i + 1, by rw [h8.out], by go_num, by have := HI.out; omega, hBx⟩
       case measure => simp [intOf] <;> (have := HI.out; omega)
      ·have q5 : decide ((0 : Int) < (v : Int)) = true := by simp; omega
       have q6 : decide (0 < v) = true := by simp; omega
       rw [if_pos (by omega)] at hst
       have h8 := hid hst
       have h9 := hhs (by omega)
       have PS := fun V => hid (r21_ShareS V v M (by omega) (by have := HM9.out; omega))
       rw [HTT.out] at PS
       obtain ⟨S0, hS0⟩ : ∃ s, shB v j = s := ⟨_, rfl⟩
       obtain ⟨KB, hKB⟩ : ∃ s, kyS i = s := ⟨_, rfl⟩
       rw [hS0] at PS h9
       rw [hKB] at h9 ky
       have PH := fun V u hu => hid (k_HasM V u BL KB S0 hu)
       rw [h9] at PH
       have K2 : Hid (∀ w', Below wr.heap.size wr w' → w'.cell? ⟨gk, i, none⟩ = some (.string KB) ∧ w'.cell? ⟨g, i, none⟩ = some (.int .i64 (v : Nat))) := fun w' hb => ⟨((hBx.out.trans (hb.mono hBx.out.size)).cell (p := ⟨gk, i, none⟩) kl).trans ky, ((XQ.out.call hBx.out).call hb).cell hv⟩
       clear hF hv hst hle hv5 hhs ky kl h0 hlt hi4 h9 hS0 hKB
       go_wp2_with fail
       refine held_plain [0, 1, 2, 3, 4, 5, 6, 7, 8, 9, 10, 11, 12, 13] 4 (fun w' => w'.cell? ⟨gk, i, none⟩ = some (.string KB) ∧ w'.cell? ⟨g, i, none⟩ = some (.int .i64 (v : Nat))) (by kernel_rfl) (by kernel_rfl) (by kernel_rfl) (by kernel_rfl) (K2.out _ (Below.refl _ _).drew) ?_
       iterate 14
        refine ⟨_, rfl, ?_⟩
        apply Exists.intro
        refine ⟨.inl ⟨by rfl, ?_⟩, ?_⟩
        ·(intro W' hW'; obtain ⟨q8, q9⟩ := hW'; go_simp; try (with_reducible rfl))
        (dsimp only [Act.put]; try simp only [List.setIfInBounds_toArray, List.set_cons_zero, List.set_cons_succ])
       refine held_one (i := 14) (by kernel_rfl) (by rfl) (by rfl) ?_
       go_wp2_with fail
       rw [show RowKit.wrap64 ((n : Int) * 3) = ((M : Nat) : Int) from (IntWalk.i64_left _).symm.trans HWM.out]
       refine (PS _).out.mono ?_; rintro e w8 ⟨rfl, hb8⟩
       have x8 := hid (show Below wr.heap.size wr w8 from (Below.refl _ _).drew.trans hb8)
       clear hb8
       go_wp2_with fail
       refine ⟨K2.out _ x8.out, ?_⟩
       refine held_more (is := [15]) (g := 2) (by kernel_rfl) rfl (K2.out _ x8.out) (by kernel_rfl) ?_
       iterate 1
        refine ⟨_, rfl, ?_⟩
        apply Exists.intro
        refine ⟨.inl ⟨by rfl, ?_⟩, ?_⟩
        ·(intro W' hW'; obtain ⟨q8, q9⟩ := hW'; go_simp; try (with_reducible rfl))
        (dsimp only [Act.put]; try simp only [List.setIfInBounds_toArray, List.set_cons_zero, List.set_cons_succ])
       refine held_one (i := 16) (by kernel_rfl) (by rfl) (by rfl) ?_
       go_wp2_with fail
       refine (PH _ _ ((UQ.out.call hBx.out).call x8.out)).out.mono ?_; rintro e w9 ⟨rfl, hb9⟩
       have x9 := hid (bnext x8.out hb9)
       clear hb9
       go_wp2_with fail
       refine ⟨K2.out _ x9.out, ?_⟩
       refine held_more (is := [17]) (g := 0) (by kernel_rfl) rfl (K2.out _ x9.out) (by kernel_rfl) ?_
       iterate 1
        refine ⟨_, rfl, ?_⟩
        apply Exists.intro
        refine ⟨.inl ⟨by rfl, ?_⟩, ?_⟩
        ·(intro W' hW'; obtain ⟨q8, q9⟩ := hW'; go_simp; try (with_reducible rfl))
        (dsimp only [Act.put]; try simp only [List.setIfInBounds_toArray, List.set_cons_zero, List.set_cons_succ])
       refine wpAnyH_done (by kernel_rfl) ?_ _
       simp only [Only]
       go_wp2_with fail
       go_roundw
       case rel => exact ⟨i + 1, by rw [h8.out]; go_num, by go_num, by have := HI.out; omega, hid (bnext hBx.out x9.out)⟩
       case measure => simp [intOf] <;> (have := HI.out; omega)
     ·obtain rfl : i = 4 := by omega
      rw [HF.out]
      clear hlt hi4
      go_wp2_with fail
      go_ret
      exact ⟨rfl, bnext yq.out hBx.out⟩
theorem w_SparseCounts (w : World) (x y : Int) (all : Bool) (th : Int) (a rr : ByteArray) (B : Int) (ha : a.size ≤ 9223372036854775807) (hrr : rr.size ≤ 9223372036854775807) (hL : LayB w) :
 Calls Tryz.prog 3 #[.int .i64 x, .int .i64 y, .bool all, .int .i64 th, .string a, .string rr, .int .i64 B] w fun e w' => e = .returned (.bool true) ∧ Below w.heap.size w w' := by
 have HLV := hid (w_lives24 w hL)
 by_cases c0 : 20 < a.size
 ·have t0 : decide ((20 : Int) < (a.size : Int)) = true := decide_eq_true (by omega)
  clear hL c0
  go_enter Tryz.func3, Tryz.ntmps3
  go_wp2_with fail
  refine HLV.out.mono ?_; rintro e w1 ⟨rfl, hb1⟩
  go_wp2_with fail
  go_ret
  exact ⟨rfl, hb1⟩
 have t0 : decide ((20 : Int) < (a.size : Int)) = false := decide_eq_false (by omega)
 by_cases c0r : 20 < rr.size
 ·have t0r : decide ((20 : Int) < (rr.size : Int)) = true := decide_eq_true (by omega)
  clear hL c0 c0r
  go_enter Tryz.func3, Tryz.ntmps3
  go_wp2_with fail
  refine HLV.out.mono ?_; rintro e w1 ⟨rfl, hb1⟩
  go_wp2_with fail
  go_ret
  exact ⟨rfl, hb1⟩
 have t0r : decide ((20 : Int) < (rr.size : Int)) = false := decide_eq_false (by omega)
 by_cases c1 : B < 0
 ·have t1 : decide (B < 0) = true := decide_eq_true c1
  clear hL c0 c0r c1
  go_enter Tryz.func3, Tryz.ntmps3
  go_wp2_with fail
  refine HLV.out.mono ?_; rintro e w1 ⟨rfl, hb1⟩
  go_wp2_with fail
  go_ret
  exact ⟨rfl, hb1⟩
 have t1 : decide (B < 0) = false := decide_eq_false c1
 by_cases c2 : 4 < B
 ·have t2 : decide (4 < B) = true := decide_eq_true c2
  clear hL c0 c0r c1 c2
  go_enter Tryz.func3, Tryz.ntmps3
  go_wp2_with fail
  refine HLV.out.mono ?_; rintro e w1 ⟨rfl, hb1⟩
  go_wp2_with fail
  go_ret
  exact ⟨rfl, hb1⟩
 have t2 : decide (4 < B) = false := decide_eq_false c2
 obtain ⟨n, rfl⟩ : ∃ n : Nat, B = (n : Nat) := ⟨B.toNat, by omega⟩
 cases all
 ·exact sct_b1 w x y th a rr n (by omega) (by omega) (by omega) hL
 ·by_cases c3 : 3 < n
  ·have t3 : decide ((3 : Int) < (n : Int)) = true := decide_eq_true (by omega)
   have t3' : decide (3 < n) = true := decide_eq_true c3
   have t2' : decide (4 < n) = false := decide_eq_false (by omega)
   clear hL c0 c0r c1 c2 c3
   go_enter Tryz.func3, Tryz.ntmps3
   go_wp2_with fail
   refine HLV.out.mono ?_; rintro e w1 ⟨rfl, hb1⟩
   go_wp2_with fail
   go_ret
   exact ⟨rfl, hb1⟩
  ·exact sct_b2 w x y th a rr n (by omega) (by omega) (by omega) hL
end Go.Proofs.YtlmnpocifldpmaaGreatDoor
