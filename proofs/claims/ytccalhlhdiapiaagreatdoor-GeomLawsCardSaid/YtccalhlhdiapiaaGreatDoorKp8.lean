/- Texts that the proof rests on, merged: Sd, Tt, Tb, Er3. -/
import Derived.Test.YtccalhlhdiapiaaGreatDoorKp7
import Derived.Deep.DeepCutAuto
import Derived.RegionTactic
import Derived.Deep.LoopGhost
import Derived.Maps.AppendAt
import Derived.RangeFuncBox
namespace Go.Proofs.YtccalhlhdiapiaaGreatDoor
open Go.RowKit
open Go.Lib (decDigits nDigits)
set_option linter.unusedVariables false
set_option linter.unusedSimpArgs false
theorem p_plus (V : World) (x y : Nat) (hx : nDigits x ≤ 4000) (hy : nDigits y ≤ 4000) (h : nDigits (x + y) ≤ 4000) (hL : Lay V) : Calls Tryz.prog 61 #[.string (numB x), .string (numB y)] V fun e w' => e = .returned (.string (numB (x + y))) ∧ Below V.heap.size V w' := by
  have h2 := g_plus V (numB x) (numB y) (numB_sz hx) (numB_sz hy) hL
  rwa [natB_num hx hy h] at h2
theorem p_times (V : World) (x y : Nat) (hx : nDigits x ≤ 4000) (hy : nDigits y ≤ 4000) (h : nDigits (x * y) ≤ 4000) (hL : Lay V) : Calls Tryz.prog 62 #[.string (numB x), .string (numB y)] V fun e w' => e = .returned (.string (numB (x * y))) ∧ Below V.heap.size V w' := by
  have h2 := g_times V (numB x) (numB y) (numB_sz hx) (numB_sz hy) hL
  rwa [natB_num hx hy h] at h2
theorem p_cmp (V : World) (x y : Nat) (hx : nDigits x ≤ 4000) (hy : nDigits y ≤ 4000) : Calls Tryz.prog 97 #[.string (numB x), .string (numB y)] V fun e w' => e = .returned (.int .i64 (ordN x y)) ∧ Below V.heap.size V w' := by
  have h2 := n_Cmp V (numB x) (numB y) (numB_sz hx) (numB_sz hy)
  rwa [cmpN_num hx hy] at h2
theorem p_sub (V : World) (x y : Nat) (hx : nDigits x ≤ 4000) (hy : nDigits y ≤ 4000) (h : y ≤ x) (hL : Lay V) : Calls Tryz.prog 64 #[.string (numB x), .string (numB y)] V fun e w' => e = .returned (.tuple #[.string (numB (x - y)), .int .i64 0]) ∧ Below V.heap.size V w' := by
  have h2 := n_Sub V (numB x) (numB y) (numB_sz hx) (numB_sz hy) hL
  have h3 : ¬ 4000 < nDigits (x - y) := by have := nDigits_mono (show x - y ≤ x by omega); omega
  have e1 : pairB (subB (bN (numB x)) (bN (numB y))) (numB x) (numB y) = numB (x - y) := by
    rw [bN_num, bN_num, pairB, if_pos ⟨errN_numB hx, errN_numB hy⟩, subB, if_neg (by omega), resB, if_neg h3]
  have e2 : pairE (subE (bN (numB x)) (bN (numB y))) (numB x) (numB y) = 0 := by
    rw [bN_num, bN_num, pairE, if_pos (errN_numB hx), if_pos (errN_numB hy), subE, if_neg (by omega), resE, if_neg h3]
  rwa [e1, e2] at h2
theorem make_bools (n : Nat) (h : n ≤ 1000000) (W : World) : (Instr.makeSlice 111 (.int .i64 (n : Int)) (.int .i64 (n : Int))).run Tryz.prog W = .ok (.slice (some ⟨W.heap.size, 0, none⟩) n n) (W.alloc (.cells (madeCells #[.bool false] n) 4)) :=
  run_make_row' (P := Tryz.prog) 111 4 (.bool false) 1 Tryz.underlying111 (by kernel_rfl) rfl .i64 .i64 n (by omega) (by omega) W
theorem made_bools (f : Nat → Bool) (n : Nat) : madeCells #[.bool false] (n + 1) = (tabL f n 0).toArray := by
  rw [tabL_zero]
  apply Array.ext_getElem?
  intro i
  unfold madeCells
  by_cases hi : i < n + 1 <;> simp [hi, Nat.mod_one]
def TwoB (w : World) (H n : Nat) (v u : Value) (f g : List Value) : Prop := ∃ g1 g2, v = .slice (some ⟨g1, 0, none⟩) (n + 1) (n + 1) ∧ u = .slice (some ⟨g2, 0, none⟩) (n + 1) (n + 1) ∧ g1 ≠ g2 ∧ H ≤ g1 ∧ H ≤ g2 ∧ Blk w g1 f.toArray 4 ∧ Blk w g2 g.toArray 4
def SidesOut (w : World) (n N D : Nat) (e : Ending) (w' : World) : Prop := ∃ v u, e = .returned (.tuple #[v, u]) ∧ TwoB w' w.heap.size n v u (allB (oneJ N D) n) (allB (zeroJ N D) n)
theorem lit_zero : ((⟨#[48]⟩ : ByteArray).toList == [48]) = true := by
  rw [Lib.toList_data]; rfl
set_option maxRecDepth 100000 in
set_option maxHeartbeats 4000000 in
theorem g_sides (w : World) (a : ByteArray) (n N D : Nat) (ha : a.size ≤ 100000) (he : gPE a = 0) (hn : n ≤ 1000) (hN : bN (cW a) = N) (hD : bN (qD a) = D) (hND : N < D) (hL : Lay w) :
    Calls Tryz.prog 98 #[.string a, .int .i64 n] w fun e w' => SidesOut w n N D e w' ∧ Below w.heap.size w w' := by
  have HR := hid (g_ratio w a ha hL)
  obtain ⟨c1, c2, c3, c4, -⟩ := cPE_ok (gPE_ok he).1
  rw [if_pos he, if_pos he, he] at HR
  rw [c1, c2, hN, hD] at HR
  rw [hN] at c3
  rw [hD] at c4
  have dN : ∀ x, x < 10 ^ (eN + 1) → nDigits x ≤ 4000 := fun x h => numB_small h (by omega) (by unfold eN; omega)
  have hM := fun W => hid (make_bools (n + 1) (by omega) W)
  have HL := hid hL; have HLL := hid hL.lt; have HND := hid hND; have DN := hid dN; have C4 := hid c4; have C3 := hid c3; have HN := hid hn
  have wn : IntKind.i64.wrap ((n : Int) + 1) = ((n + 1 : Nat) : Int) := by rw [IntWalk.i64_in _ ⟨by omega, by omega⟩]; omega
  obtain ⟨sN, hsN⟩ : ∃ s, numB N = s := ⟨_, rfl⟩
  obtain ⟨sD, hsD⟩ : ∃ s, numB D = s := ⟨_, rfl⟩
  rw [hsN, hsD] at HR
  have HSN := hid hsN; have HSD := hid hsD
  clear ha he hn hN hD hND hL c1 c2 c3 c4 dN hsN hsD
  go_enter Tryz.func98, Tryz.ntmps98
  go_wp2_with fail
  refine HR.out.mono ?_; rintro e w1 ⟨rfl, hb1⟩
  have B1 := hid hb1
  clear hb1 HR
  go_upto_region 2 with fail
  go_cut [4, 5] (fun s4 s5 wx => TwoB wx w.heap.size n s4 s5 (tabL (oneJ N D) n 0) (tabL (zeroJ N D) n 0) ∧ Below w.heap.size w wx)
  case first =>
    have X := fun (g1 g2 : Nat) (W : World) (h1 : Blk W g1 (madeCells #[.bool false] (n + 1)) 4) (h2 : Blk W g2 (madeCells #[.bool false] (n + 1)) 4) (h3 : g1 ≠ g2) (h4 : w.heap.size ≤ g1) (h5 : w.heap.size ≤ g2) => hid (show TwoB W w.heap.size n (.slice (some ⟨g1, 0, none⟩) (n + 1) (n + 1)) (.slice (some ⟨g2, 0, none⟩) (n + 1) (n + 1)) (tabL (oneJ N D) n 0) (tabL (zeroJ N D) n 0) from ⟨g1, g2, rfl, rfl, h3, h4, h5, by rw [← made_bools]; exact h1, by rw [← made_bools]; exact h2⟩)
    have M1 : ∀ W, (Instr.makeSlice 111 (.int .i64 ((n : Int) + 1)) (.int .i64 ((n : Int) + 1))).run Tryz.prog W = .ok (.slice (some ⟨W.heap.size, 0, none⟩) (n + 1) (n + 1)) (W.alloc (.cells (madeCells #[.bool false] (n + 1)) 4)) := fun W => (hM W).out
    clear hM
    go_region
    all_goals
      go_wp2_with fail
      go_meet
      first
        | exact ⟨(X w1.heap.size (w1.heap.size + 1) _ ((Blk.new w1 _ _).alloc _) (Blk.made _ _ _ (by simp)) (by omega) B1.out.size (by have := B1.out.size; omega)).out, (((B1.out.alloc B1.out.size _).alloc (by have := B1.out.size; simp; omega) _)).drew⟩
        | exact ⟨(X (w1.heap.size + 1) w1.heap.size _ (Blk.made _ _ _ (by simp)) ((Blk.new w1 _ _).alloc _) (by omega) (by have := B1.out.size; omega) B1.out.size).out, (((B1.out.alloc B1.out.size _).alloc (by have := B1.out.size; simp; omega) _)).drew⟩
  case rest =>
    obtain ⟨⟨g1, g2, rfl, rfl, h3, h4, h5, hb1, hb2⟩, hB⟩ := hcut
    have G1 := hid hb1; have G2 := hid hb2; have B2 := hid hB; have H3 := hid h3; have H4 := hid h4; have H5 := hid h5
    have k0 : wc.cell? ⟨g2, 0, none⟩ = some (.bool false) := by
      refine (hb2.cell 0).trans ?_
      rw [List.getElem?_toArray, tabL_get (Nat.zero_le _)]; simp
    have k1 := hb2.free 0
    have z0 : (0 : Int) < ((n + 1 : Nat) : Int) := by omega
    have z1 : (0 : Int) < (n : Int) + 1 := by omega
    obtain ⟨z, hz⟩ : ∃ z, (sN.toList == [48]) = z := ⟨_, rfl⟩
    have HZ : Hid (z = decide (N = 0)) := by
      show z = decide (N = 0)
      rw [← hz]
      by_cases h0 : N = 0
      · rw [← HSN.out, h0, numB_zero, lit_zero]; simp
      · rw [← HSN.out, ne_lit (l := [48]) (by rw [← numB_zero]; exact numB_ne h0)]
        simp [h0]
    clear hb1 hb2 hB hM h3 h4 h5
    go_wp2_with fail
    obtain ⟨W3, hW3⟩ : ∃ W, wc.setCell ⟨g2, 0, none⟩ (.bool z) = W := ⟨_, rfl⟩
    have G3 : Blk W3 g1 (tabL (oneJ N D) n 1).toArray 4 := by
      rw [← hW3, tabL_skip (f := oneJ N D) (j := 0) rfl]
      exact G1.out.other (fun e => H3.out e.symm) _
    have G4 : Blk W3 g2 (tabL (zeroJ N D) n 1).toArray 4 := by
      have h := G2.out.set 0 (.bool z)
      rw [hW3, List.setIfInBounds_toArray, HZ.out] at h
      have h2 := tabL_set (f := zeroJ N D) (n := n) (j := 0) (Nat.zero_le _)
      rw [← h2]
      exact h
    have B3 : Below w.heap.size w W3 := by rw [← hW3]; exact B2.out.setCell H5.out _
    rw [hW3]
    have HG3 := hid G3; have HG4 := hid G4; have HB3 := hid B3
    have e0 : Hid ((!z) = (sdx N D 0).2) := by show (!z) = _; rw [HZ.out]; simp [sdx]
    clear k0 k1 hz z0 z1 G3 G4 B3 hW3 G1 G2 B2 B1
    go_loopw [9, 10, 11] (fun o x j wr => ∃ i : Nat, j = .int .i64 ((i + 1 : Nat) : Int) ∧ i ≤ n ∧ o = .bool (sdx N D i).2 ∧ x = .string (numB (sdx N D i).1) ∧ Hid (Blk wr g1 (tabL (oneJ N D) n (i + 1)).toArray 4) ∧ Hid (Blk wr g2 (tabL (zeroJ N D) n (i + 1)).toArray 4) ∧ Hid (Below w.heap.size w wr)) (fun o x j wr => n + 1 - (intOf j).toNat)
    case atStart => exact ⟨0, rfl, Nat.zero_le _, by rw [e0.out], by rw [HSN.out.symm]; rfl, HG3.out, HG4.out, HB3.out⟩
    case round =>
      obtain ⟨i, rfl, hi, rfl, rfl, hg1, hg2, hB⟩ := hrel
      cases ho : (sdx N D i).2
      · have GG1 : Blk wr g1 (allB (oneJ N D) n).toArray 4 := by
          rw [← tabL_full (oneJ N D) n (j := n + 1) (by omega), tabL_shut (j := i + 1) (fun k hk => oneJ_shut ho k (by omega)) (n + 1) (by omega)]
          exact hg1.out
        have GG2 : Blk wr g2 (allB (zeroJ N D) n).toArray 4 := by
          rw [← tabL_full (zeroJ N D) n (j := n + 1) (by omega), tabL_shut (j := i + 1) (fun k hk => zeroJ_shut ho k (by omega)) (n + 1) (by omega)]
          exact hg2.out
        have GG1 := hid GG1; have GG2 := hid GG2
        clear ho hi
        go_wp2_with fail
        all_goals
          go_ret2
          exact ⟨⟨_, _, rfl, ⟨g1, g2, rfl, rfl, H3.out, H4.out, H5.out, GG1.out, GG2.out⟩⟩, hB.out⟩
      · by_cases hlt : i + 1 ≤ n
        · obtain ⟨X, hX⟩ : ∃ X, (sdx N D i).1 = X := ⟨_, rfl⟩
          have hXD : X < D := hX ▸ sdx_lt HND.out i
          have hs : sdx N D (i + 1) = if D ≤ 2 * X then (2 * X - D, decide (2 * X ≠ D)) else (2 * X, true) := by rw [sdx, if_pos ho, hX]
          have h1 : oneJ N D (i + 1) = decide (D ≤ 2 * X) := by rw [oneJ, ho, hX]; rfl
          have h0 : zeroJ N D (i + 1) = decide (2 * X ≤ D) := by rw [zeroJ, ho, hX]; rfl
          have p10 : (10 : Nat) ^ (eN + 1) = 10 * 10 ^ eN := by rw [Nat.pow_succ, Nat.mul_comm]
          have q10 := C4.out
          have d1 : nDigits X ≤ 4000 := DN.out X (by omega)
          have d2 : nDigits (X + X) ≤ 4000 := DN.out _ (by omega)
          have d3 : nDigits D ≤ 4000 := DN.out _ (by omega)
          have HPL := fun V hV => hid (p_plus V X X d1 d1 d2 hV)
          have HCM := fun V => hid (p_cmp V (X + X) D d2 d3)
          rw [HSD.out] at HCM
          rw [hX]
          have k1 : wr.cell? ⟨g1, i + 1, none⟩ = some (.bool false) := by
            refine (hg1.out.cell (i + 1)).trans ?_
            rw [List.getElem?_toArray, tabL_get hlt]; simp
          have k2 : wr.cell? ⟨g2, i + 1, none⟩ = some (.bool false) := by
            refine (hg2.out.cell (i + 1)).trans ?_
            rw [List.getElem?_toArray, tabL_get hlt]; simp
          have f0 : (0 : Int) ≤ ((i + 1 : Nat) : Int) := by omega
          have f1 : ((i + 1 : Nat) : Int) < ((n + 1 : Nat) : Int) := by omega
          have f2 : decide (((i + 1 : Nat) : Int) ≤ (n : Int)) = true := by simp; omega
          have f3 : ((i + 1 : Nat) : Int) ≤ 1000 := by have := HN.out; omega
          have f4 : (i : Int) ≤ 1000 := by have := HN.out; omega
          have HLT := hid hlt
          rcases Nat.lt_trichotomy (X + X) D with hc | hc | hc
          · rw [ordN_lt hc] at HCM
            have HS := hid (show sdx N D (i + 1) = (X + X, true) from by rw [hs, if_neg (by omega), Nat.two_mul])
            have T1 := hid (tabL_skip (n := n) (show oneJ N D (i + 1) = false from by rw [h1]; simp; omega))
            have T0 := hid (tabL_set (f := zeroJ N D) hlt)
            have HZ0 := hid (show zeroJ N D (i + 1) = true from by rw [h0]; simp; omega)
            clear hc hs h1 h0 p10 q10 d1 d2 d3 hX hXD ho hi
            go_wp2_with fail
            refine (HPL _ (HL.out.below hB.out HLL.out)).out.mono ?_; rintro e w5 ⟨rfl, hb5⟩
            have G15 := hid (hg1.out.call hb5); have G25 := hid (hg2.out.call hb5); have B5 := hid (hB.out.trans (hb5.mono hB.out.size))
            clear hb5
            go_wp2_with fail
            refine (HCM _).out.mono ?_; rintro e w6 ⟨rfl, hb6⟩
            have G16 := hid (G15.out.call hb6); have G26 := hid (G25.out.call hb6); have B6 := hid (B5.out.trans (hb6.mono B5.out.size))
            have m1 : w6.cell? ⟨g1, i + 1, none⟩ = some (.bool false) := by
              refine (G16.out.cell (i + 1)).trans ?_
              rw [List.getElem?_toArray, tabL_get hlt]; simp
            have m2 : w6.cell? ⟨g2, i + 1, none⟩ = some (.bool false) := by
              refine (G26.out.cell (i + 1)).trans ?_
              rw [List.getElem?_toArray, tabL_get hlt]; simp
            have m3 := G16.out.free (i + 1)
            have m4 := G26.out.free (i + 1)
            clear hb6 hlt k1 k2
            go_wp2_with fail
            go_roundw
            case rel =>
              refine ⟨i + 1, by go_num, HLT.out, by rw [HS.out], by rw [HS.out], ?_, ?_, B6.out.setCell H5.out _⟩
              · show Blk _ _ _ _
                rw [T1.out]
                exact G16.out.other (fun e => H3.out e.symm) _
              · show Blk _ _ _ _
                rw [← T0.out, HZ0.out]
                have h := G26.out.set (i + 1) (.bool true)
                rw [List.setIfInBounds_toArray] at h
                exact h
            case measure => simp [intOf] <;> (have := HLT.out; omega)
          · rw [show ordN (X + X) D = 0 from by rw [hc, ordN_eq]] at HCM
            have hle : D ≤ X + X := by omega
            have HSU := fun V hV => hid (p_sub V (X + X) D d2 d3 hle hV)
            rw [HSD.out] at HSU
            have HS := hid (show sdx N D (i + 1) = (X + X - D, false) from by rw [hs, if_pos (by omega), Nat.two_mul]; simp; omega)
            have T1 := hid (tabL_set (f := oneJ N D) hlt)
            have HZ1 := hid (show oneJ N D (i + 1) = true from by rw [h1]; simp; omega)
            have T0 := hid (tabL_set (f := zeroJ N D) hlt)
            have HZ0 := hid (show zeroJ N D (i + 1) = true from by rw [h0]; simp; omega)
            clear hc hs h1 h0 p10 q10 d1 d2 d3 hX hXD ho hi hle
            go_wp2_with fail
            refine (HPL _ (HL.out.below hB.out HLL.out)).out.mono ?_; rintro e w5 ⟨rfl, hb5⟩
            have G15 := hid (hg1.out.call hb5); have G25 := hid (hg2.out.call hb5); have B5 := hid (hB.out.trans (hb5.mono hB.out.size))
            clear hb5
            go_wp2_with fail
            refine (HCM _).out.mono ?_; rintro e w6 ⟨rfl, hb6⟩
            have G16 := hid (G15.out.call hb6); have G26 := hid (G25.out.call hb6); have B6 := hid (B5.out.trans (hb6.mono B5.out.size))
            have m1 : w6.cell? ⟨g1, i + 1, none⟩ = some (.bool false) := by
              refine (G16.out.cell (i + 1)).trans ?_
              rw [List.getElem?_toArray, tabL_get hlt]; simp
            have m2 : w6.cell? ⟨g2, i + 1, none⟩ = some (.bool false) := by
              refine (G26.out.cell (i + 1)).trans ?_
              rw [List.getElem?_toArray, tabL_get hlt]; simp
            have m3 := G16.out.free (i + 1)
            have m4 := G26.out.free (i + 1)
            clear hb6 hlt k1 k2
            go_wp2_with fail
            refine (HSU _ (HL.out.below B6.out HLL.out)).out.mono ?_; rintro e w7 ⟨rfl, hb7⟩
            have G17 := hid (G16.out.call hb7); have G27 := hid (G26.out.call hb7); have B7 := hid (B6.out.trans (hb7.mono B6.out.size))
            have n1 := (hb7.cell (cell_lt m1)).trans m1
            have n3 := G17.out.free (i + 1)
            have n2 : (w7.setCell ⟨g1, i + 1, none⟩ (.bool true)).cell? ⟨g2, i + 1, none⟩ = some (.bool false) := ((G27.out.other (fun e => H3.out e) (.bool true)).cell (i + 1)).trans (by rw [List.getElem?_toArray, tabL_get HLT.out]; simp)
            have n4 : (w7.setCell ⟨g1, i + 1, none⟩ (.bool true)).frozen? ⟨g2, i + 1, none⟩ = false := (G27.out.other (a := ⟨g1, i + 1, none⟩) (fun e => H3.out e) (.bool true)).free (i + 1)
            clear hb7 m1 m2 m3 m4
            go_wp2_with fail
            go_roundw
            case rel =>
              refine ⟨i + 1, by go_num, HLT.out, by rw [HS.out], by rw [HS.out], ?_, ?_, ((B7.out.setCell H4.out _).setCell H5.out _)⟩
              · show Blk _ _ _ _
                rw [← T1.out, HZ1.out]
                have h := (G17.out.set (i + 1) (.bool true)).other (a := ⟨g2, i + 1, none⟩) (fun e => H3.out e.symm) (.bool true)
                rw [List.setIfInBounds_toArray] at h
                exact h
              · show Blk _ _ _ _
                rw [← T0.out, HZ0.out]
                have h := (G27.out.other (a := ⟨g1, i + 1, none⟩) (fun e => H3.out e) (.bool true)).set (i + 1) (.bool true)
                rw [List.setIfInBounds_toArray] at h
                exact h
            case measure => simp [intOf] <;> (have := HLT.out; omega)
          · rw [ordN_gt hc] at HCM
            have hle : D ≤ X + X := by omega
            have HSU := fun V hV => hid (p_sub V (X + X) D d2 d3 hle hV)
            rw [HSD.out] at HSU
            have HS := hid (show sdx N D (i + 1) = (X + X - D, true) from by rw [hs, if_pos (by omega), Nat.two_mul]; simp; omega)
            have T1 := hid (tabL_set (f := oneJ N D) hlt)
            have HZ1 := hid (show oneJ N D (i + 1) = true from by rw [h1]; simp; omega)
            have T0 := hid (tabL_set (f := zeroJ N D) hlt)
            have HZ0 := hid (show zeroJ N D (i + 1) = false from by rw [h0]; simp; omega)
            clear hc hs h1 h0 p10 q10 d1 d2 d3 hX hXD ho hi hle
            go_wp2_with fail
            refine (HPL _ (HL.out.below hB.out HLL.out)).out.mono ?_; rintro e w5 ⟨rfl, hb5⟩
            have G15 := hid (hg1.out.call hb5); have G25 := hid (hg2.out.call hb5); have B5 := hid (hB.out.trans (hb5.mono hB.out.size))
            clear hb5
            go_wp2_with fail
            refine (HCM _).out.mono ?_; rintro e w6 ⟨rfl, hb6⟩
            have G16 := hid (G15.out.call hb6); have G26 := hid (G25.out.call hb6); have B6 := hid (B5.out.trans (hb6.mono B5.out.size))
            have m1 : w6.cell? ⟨g1, i + 1, none⟩ = some (.bool false) := by
              refine (G16.out.cell (i + 1)).trans ?_
              rw [List.getElem?_toArray, tabL_get hlt]; simp
            have m2 : w6.cell? ⟨g2, i + 1, none⟩ = some (.bool false) := by
              refine (G26.out.cell (i + 1)).trans ?_
              rw [List.getElem?_toArray, tabL_get hlt]; simp
            have m3 := G16.out.free (i + 1)
            have m4 := G26.out.free (i + 1)
            clear hb6 hlt k1 k2
            go_wp2_with fail
            refine (HSU _ (HL.out.below B6.out HLL.out)).out.mono ?_; rintro e w7 ⟨rfl, hb7⟩
            have G17 := hid (G16.out.call hb7); have G27 := hid (G26.out.call hb7); have B7 := hid (B6.out.trans (hb7.mono B6.out.size))
            have n1 := (hb7.cell (cell_lt m1)).trans m1
            have n3 := G17.out.free (i + 1)
            have n2 : (w7.setCell ⟨g1, i + 1, none⟩ (.bool true)).cell? ⟨g2, i + 1, none⟩ = some (.bool false) := ((G27.out.other (fun e => H3.out e) (.bool true)).cell (i + 1)).trans (by rw [List.getElem?_toArray, tabL_get HLT.out]; simp)
            have n4 : (w7.setCell ⟨g1, i + 1, none⟩ (.bool true)).frozen? ⟨g2, i + 1, none⟩ = false := (G27.out.other (a := ⟨g1, i + 1, none⟩) (fun e => H3.out e) (.bool true)).free (i + 1)
            clear hb7 m1 m2 m3 m4
            go_wp2_with fail
            go_roundw
            case rel =>
              refine ⟨i + 1, by go_num, HLT.out, by rw [HS.out], by rw [HS.out], ?_, ?_, ((B7.out.setCell H4.out _).setCell H5.out _)⟩
              · show Blk _ _ _ _
                rw [← T1.out, HZ1.out]
                have h := (G17.out.set (i + 1) (.bool true)).other (a := ⟨g2, i + 1, none⟩) (fun e => H3.out e.symm) (.bool false)
                rw [List.setIfInBounds_toArray] at h
                exact h
              · show Blk _ _ _ _
                rw [← T0.out, HZ0.out]
                have h := (G27.out.other (a := ⟨g1, i + 1, none⟩) (fun e => H3.out e) (.bool true)).set (i + 1) (.bool false)
                rw [List.setIfInBounds_toArray] at h
                exact h
            case measure => simp [intOf] <;> (have := HLT.out; omega)
        · have e1 : i = n := by omega
          subst e1
          have f2 : decide (((i + 1 : Nat) : Int) ≤ (i : Int)) = false := by simp; omega
          have GG1 : Blk wr g1 (allB (oneJ N D) i).toArray 4 := by
            rw [← tabL_full (oneJ N D) i (j := i + 1) (by omega)]
            exact hg1.out
          have GG2 : Blk wr g2 (allB (zeroJ N D) i).toArray 4 := by
            rw [← tabL_full (zeroJ N D) i (j := i + 1) (by omega)]
            exact hg2.out
          have GG1 := hid GG1; have GG2 := hid GG2
          clear ho hi hlt
          go_wp2_with fail
          go_ret2
          exact ⟨⟨_, _, rfl, ⟨g1, g2, rfl, rfl, H3.out, H4.out, H5.out, GG1.out, GG2.out⟩⟩, hB.out⟩
end Go.Proofs.YtccalhlhdiapiaaGreatDoor
namespace Go.Proofs.YtccalhlhdiapiaaGreatDoor
open Go.RowKit
open Go.Lib (decDigits nDigits)
set_option linter.unusedVariables false
set_option linter.unusedSimpArgs false
def NRowT (w : World) (g : Nat) (l : List Nat) : Prop := Blk w g (numL l).toArray 22
theorem NRowT.cell {w : World} {g : Nat} {l : List Nat} (h : NRowT w g l) {i : Nat} (hi : i < l.length) : w.cell? ⟨g, i, none⟩ = some (.string (numB (l.getD i 0))) := by
  refine (Blk.cell h i).trans ?_
  rw [List.getElem?_toArray, numL_get hi]
theorem NRowT.free {w : World} {g : Nat} {l : List Nat} (h : NRowT w g l) (i : Nat) : w.frozen? ⟨g, i, none⟩ = false := Blk.free h i
theorem NRowT.set {w : World} {g : Nat} {l : List Nat} (h : NRowT w g l) (i x : Nat) : NRowT (w.setCell ⟨g, i, none⟩ (.string (numB x))) g (l.set i x) := by
  have := Blk.set h i (.string (numB x))
  rw [List.setIfInBounds_toArray, numL_set] at this
  exact this
theorem NRowT.call {w w' : World} {g : Nat} {l : List Nat} (h : NRowT w g l) (hb : Below w.heap.size w w') : NRowT w' g l := Blk.call h hb
theorem NRowT.other {w : World} {g : Nat} {l : List Nat} (h : NRowT w g l) {a : Addr} (ha : a.block ≠ g) (v : Value) : NRowT (w.setCell a v) g l := Blk.other h ha v
theorem NRowT.zeros {w : World} {g n : Nat} (h : Blk w g (strsR (List.replicate n ⟨#[48]⟩)).toArray 22) : NRowT w g (List.replicate n 0) := by
  have e : numL (List.replicate n 0) = strsR (List.replicate n ⟨#[48]⟩) := by
    unfold numL strsR
    rw [List.map_replicate, List.map_replicate, numB_zero]
  unfold NRowT
  rw [e]; exact h
def TotOut (w : World) (n N D : Nat) (e : Ending) (w' : World) : Prop := ∃ g, e = .returned (.slice (some ⟨g, 0, none⟩) (n + 1) (n + 1)) ∧ w.heap.size ≤ g ∧ NRowT w' g (tOut (oneJ N D) (zeroJ N D) n (n + 1)).2
set_option maxRecDepth 100000 in
set_option maxHeartbeats 8000000 in
theorem g_totals (w : World) (a : ByteArray) (n N D : Nat) (ha : a.size ≤ 100000) (he : gPE a = 0) (hn : n ≤ 1000) (hN : bN (cW a) = N) (hD : bN (qD a) = D) (hND : N < D) (hL : Lay w) :
    Calls Tryz.prog 59 #[.string a, .int .i64 n] w fun e w' => TotOut w n N D e w' ∧ Below w.heap.size w w' := by
  have HS := hid (g_sides w a n N D ha he hn hN hD hND hL)
  have HR := fun V g h => hid (s_Repeat V g (n + 1) ⟨#[48]⟩ (by omega) (by omega) h)
  have HL := hid hL; have HLL := hid hL.lt; have HN := hid hn
  have wn : IntKind.i64.wrap ((n : Int) + 1) = ((n + 1 : Nat) : Int) := by rw [IntWalk.i64_in _ ⟨by omega, by omega⟩]; omega
  have h00 := hid (show oneJ N D 0 = false from rfl)
  obtain ⟨os, hos⟩ : ∃ f, oneJ N D = f := ⟨_, rfl⟩
  obtain ⟨zs, hzs⟩ : ∃ f, zeroJ N D = f := ⟨_, rfl⟩
  have HOS := hid hos; have HZS := hid hzs
  rw [hos] at h00
  clear ha he hn hN hD hND hL hos hzs
  go_enter Tryz.func59, Tryz.ntmps59
  go_wp2_with fail
  refine HS.out.mono ?_; rintro e w1 ⟨⟨v1, v2, rfl, ⟨g1, g2, rfl, rfl, h3, h4, h5, hg1, hg2⟩⟩, hb1⟩
  rw [HOS.out] at hg1
  rw [HZS.out] at hg2
  have G1 := hid hg1; have G2 := hid hg2; have B1 := hid hb1; have K1 := hid h4; have K2 := hid h5
  clear hg1 hg2 hb1 h3 h4 h5 HS
  go_wp2_with fail
  refine (HR _ _ ((Blk.new w1 _ _).cell 0)).out.mono ?_; rintro e w2 ⟨rfl, hg7, hb2⟩
  obtain ⟨g7, h7⟩ : ∃ g, (w1.alloc (.cells #[.string ⟨#[48]⟩] 22)).heap.size = g := ⟨_, rfl⟩
  rw [h7] at hg7 ⊢
  have R7 := hid (NRowT.zeros hg7)
  have a1 := (Below.refl w1.heap.size w1).alloc (Nat.le_refl _) (.cells #[.string ⟨#[48]⟩] 22)
  have b2 := hid (bnext a1 hb2)
  have K7 := hid (show w1.heap.size < g7 by rw [← h7]; simp)
  have B2 := hid (B1.out.trans (b2.out.mono B1.out.size)); have G12 := hid (G1.out.call b2.out); have G22 := hid (G2.out.call b2.out)
  have L7 := hid (show g7 < w2.heap.size from Blk.lt hg7)
  clear hg7 hb2 a1 h7
  go_wp2_with fail
  refine (HR _ _ ((Blk.new w2 _ _).cell 0)).out.mono ?_; rintro e w3 ⟨rfl, hg8, hb3⟩
  obtain ⟨g8, h8⟩ : ∃ g, (w2.alloc (.cells #[.string ⟨#[48]⟩] 22)).heap.size = g := ⟨_, rfl⟩
  rw [h8] at hg8 ⊢
  have R8 := hid (NRowT.zeros hg8)
  have a2 := (Below.refl w2.heap.size w2).alloc (Nat.le_refl _) (.cells #[.string ⟨#[48]⟩] 22)
  have b3 := hid (bnext a2 hb3)
  have K8 := hid (show w2.heap.size < g8 by rw [← h8]; simp)
  have B3 := hid (B2.out.trans (b3.out.mono B2.out.size)); have G13 := hid (G12.out.call b3.out); have G23 := hid (G22.out.call b3.out); have R73 := hid (R7.out.call b3.out)
  have N1 := hid (show g1 < w1.heap.size from Blk.lt G1.out); have N2 := hid (show g2 < w1.heap.size from Blk.lt G2.out)
  have z12 := hid b2.out.size; have zw1 := hid B1.out.size
  clear hg8 hb3 a2 h8 HR
  have k0 : w3.cell? ⟨g7, 0, none⟩ = some (.string ⟨#[48]⟩) := by
    refine (R73.out.cell (i := 0) (by simp)).trans ?_
    rw [← numB_zero]; simp [List.getD_eq_getElem?_getD]
  have k1 := R73.out.free 0
  have z0 : (0 : Int) < ((n + 1 : Nat) : Int) := by omega
  have z1 : (0 : Int) < (n : Int) + 1 := by omega
  go_wp2_with fail
  have X7 : Hid (7 = 7) := rfl
  have hne : g7 ≠ g8 := by have := L7.out; have := K8.out; omega
  obtain ⟨W3, hW3⟩ : ∃ W, w3.setCell ⟨g7, 0, none⟩ (.string ⟨#[49]⟩) = W := ⟨_, rfl⟩
  have S7 : NRowT W3 g7 (tOut os zs n 0).1 := by
    rw [← hW3, ← numB_one]
    have h := R73.out.set 0 1
    rw [show (List.replicate (n + 1) 0).set 0 1 = 1 :: List.replicate n 0 by rw [List.replicate_succ]; rfl] at h
    exact h
  have S8 : NRowT W3 g8 (tOut os zs n 0).2 := by rw [← hW3]; exact R8.out.other hne _
  have S1 : Blk W3 g1 (allB os n).toArray 4 := by rw [← hW3]; exact G13.out.other (by have := K7.out; have := N1.out; simp; omega) _
  have S2 : Blk W3 g2 (allB zs n).toArray 4 := by rw [← hW3]; exact G23.out.other (by have := K7.out; have := N2.out; simp; omega) _
  have SB : Below w.heap.size w W3 := by rw [← hW3]; exact B3.out.setCell (by have := K7.out; have := zw1.out; simp; omega) _
  rw [hW3]
  have T7 := hid S7; have T8 := hid S8; have T1 := hid S1; have T2 := hid S2; have TBl := hid SB; have NE := hid hne
  have Q7 := hid (show w.heap.size ≤ g7 by have := K7.out; have := zw1.out; omega); have Q8 := hid (show w.heap.size ≤ g8 by have := K7.out; have := K8.out; have := L7.out; have := zw1.out; omega)
  have M17 := hid (show g1 ≠ g7 by have := K7.out; have := N1.out; omega); have M18 := hid (show g1 ≠ g8 by have := K7.out; have := K8.out; have := L7.out; have := N1.out; omega)
  have M27 := hid (show g2 ≠ g7 by have := K7.out; have := N2.out; omega); have M28 := hid (show g2 ≠ g8 by have := K7.out; have := K8.out; have := L7.out; have := N2.out; omega)
  clear k0 k1 z0 z1 S7 S8 S1 S2 SB hne hW3 X7 R73 R8 G13 G23 B3 b3 R7 G12 G22 B2 b2 G1 G2 B1 K7 K8 L7 z12 zw1 N1 N2
  go_loopw [29] (fun ii wr => ∃ i : Nat, ii = .int .i64 (i : Nat) ∧ i ≤ n + 1 ∧ Hid (NRowT wr g7 (tOut os zs n i).1) ∧ Hid (NRowT wr g8 (tOut os zs n i).2) ∧ Hid (Blk wr g1 (allB os n).toArray 4) ∧ Hid (Blk wr g2 (allB zs n).toArray 4) ∧ Hid (Below w.heap.size w wr)) (fun ii wr => n + 1 - (intOf ii).toNat)
  case atStart => exact ⟨0, rfl, Nat.zero_le _, T7.out, T8.out, T1.out, T2.out, TBl.out⟩
  case round =>
    obtain ⟨i, rfl, hi, hg7, hg8, hg1, hg2, hB⟩ := hrel
    by_cases hlt : i < n + 1
    · have q0 : decide ((i : Int) < ((n + 1 : Nat) : Int)) = true := by simp; omega
      have f0 : (0 : Int) ≤ (i : Int) := by omega
      have f1 : (i : Int) < ((n + 1 : Nat) : Int) := by omega
      have f2 : (i : Int) ≤ 1000 := by have := HN.out; omega
      have IL := hid hlt
      have TBI := hid (TB.outer (os := os) (zs := zs) h00.out n i hi)
      clear hi hlt
      go_wp2_with fail
      obtain ⟨x, hx⟩ : ∃ x, (tOut os zs n i).1.getD i 0 = x := ⟨_, rfl⟩
      obtain ⟨wo, rfl⟩ : ∃ wo : World, wo = wr := ⟨_, rfl⟩
      by_cases hx0 : x = 0
      · have k0 : wo.cell? ⟨g7, i, none⟩ = some (.string (numB x)) := by rw [← hx]; exact hg7.out.cell (by rw [TBI.out.l1]; exact IL.out)
        have q1 : ((numB x).toList == [48]) = true := by rw [hx0, numB_zero]; exact lit_zero
        have hnext := hid (show tOut os zs n (i + 1) = tOut os zs n i from by rw [tOut, if_pos (by rw [hx]; exact hx0)])
        obtain ⟨sx, hsx⟩ : ∃ s, numB x = s := ⟨_, rfl⟩
        rw [hsx] at k0 q1
        clear hx hx0 hsx
        go_loopw [10] (fun jj wq => jj = .int .i64 0 ∧ wq = wo) (fun jj wq => 0)
        case atStart => exact ⟨rfl, rfl⟩
        case round =>
          obtain ⟨rfl, rfl⟩ := hrel
          go_wp2_with fail
          go_roundw
          case rel => exact ⟨i + 1, by go_num, by have := IL.out; omega, by rw [hnext.out]; exact hg7, by rw [hnext.out]; exact hg8, hg1, hg2, hB⟩
          case measure => simp [intOf] <;> (have := IL.out; omega)
      · have q1 : ((numB x).toList == [48]) = false := ne_lit (l := [48]) (by rw [← numB_zero]; exact numB_ne hx0)
        have hnext := hid (show tOut os zs n (i + 1) = tIn os zs i (n + 1 - i) (tOut os zs n i) from by rw [tOut, if_neg (by rw [hx]; exact hx0)])
        obtain ⟨s0, hs0⟩ : ∃ s, tOut os zs n i = s := ⟨_, rfl⟩
        rw [hs0] at hx hg7 hg8 hnext TBI
        have HX := hid hx
        obtain ⟨sx, hsx⟩ : ∃ s, numB x = s := ⟨_, rfl⟩
        rw [hsx] at q1
        have HSX := hid hsx
        clear hx hx0 hsx hs0
        have d30 : decide ((i : Int) < (n : Int) + 1) = true := by have := IL.out; simp; omega
        rw [d30]
        clear d30
        go_loopw [10] (fun jj wq => ∃ j : Nat, jj = .int .i64 (j : Nat) ∧ i + j ≤ n + 1 ∧ Hid (NRowT wq g7 (tIn os zs i j s0).1) ∧ Hid (NRowT wq g8 (tIn os zs i j s0).2) ∧ Hid (Blk wq g1 (allB os n).toArray 4) ∧ Hid (Blk wq g2 (allB zs n).toArray 4) ∧ Hid (Below w.heap.size w wq)) (fun jj wq => n + 1 - (intOf jj).toNat)
        case atStart => exact ⟨0, rfl, by have := IL.out; omega, hg7, hg8, hg1, hg2, hB⟩
        case round =>
          clear hg7 hg8 hg1 hg2 hB
          obtain ⟨j, rfl, hj, hg7, hg8, hg1, hg2, hB⟩ := hrel
          have TBJ := hid (TB.inner (os := os) (zs := zs) h00.out TBI.out j hj)
          have k0 : wr.cell? ⟨g7, i, none⟩ = some (.string sx) := by
            refine (hg7.out.cell (by rw [TBJ.out.1.l1]; exact IL.out)).trans ?_
            rw [TBJ.out.2, HX.out, HSX.out]
          by_cases hlt : i + j ≤ n
          · have q2 : decide ((i : Int) + (j : Int) ≤ (n : Int)) = true := by simp; omega
            have f5 : (0 : Int) ≤ (j : Int) := by omega
            have f6 : (j : Int) < ((n + 1 : Nat) : Int) := by omega
            have f7 : (j : Int) ≤ 1000 := by have := HN.out; omega
            have f8 : (i : Int) + (j : Int) < ((n + 1 : Nat) : Int) := by omega
            have f9 : (i : Int) + (j : Int) < (n : Int) + 1 := by omega
            have f10 : (0 : Int) ≤ (i : Int) + (j : Int) := by omega
            have c1 : wr.cell? ⟨g1, j, none⟩ = some (.bool (os j)) := (hg1.out.cell j).trans (by rw [List.getElem?_toArray, allB_get (by omega)])
            have c2 : wr.cell? ⟨g2, j, none⟩ = some (.bool (zs j)) := (hg2.out.cell j).trans (by rw [List.getElem?_toArray, allB_get (by omega)])
            have HLT := hid hlt
            obtain ⟨zj, hzj⟩ : ∃ b, zs j = b := ⟨_, rfl⟩
            obtain ⟨oj, hoj⟩ : ∃ b, os j = b := ⟨_, rfl⟩
            rw [hoj] at c1
            rw [hzj] at c2
            have HZJ := hid hzj; have HOJ := hid hoj
            clear hlt hj hzj hoj
            obtain ⟨y1, hy1⟩ : ∃ y, (tIn os zs i j s0).2.getD (i + j) 0 = y := ⟨_, rfl⟩
            obtain ⟨y2, hy2⟩ : ∃ y, (tIn os zs i j s0).1.getD (i + j) 0 = y := ⟨_, rfl⟩
            have p2 : 2 ^ (i + 1) = 2 ^ i + 2 ^ i := by rw [Nat.pow_succ]; omega
            have hxb : x ≤ 2 ^ i := by rw [← HX.out]; exact TBI.out.src
            have hy1b : y1 ≤ 2 ^ i := hy1 ▸ TBJ.out.1.hi2 _ (Nat.le_refl _)
            have hy2b : y2 ≤ 2 ^ i := hy2 ▸ TBJ.out.1.hi1 _ (Nat.le_refl _)
            have i1000 : i ≤ 1000 := by have := IL.out; have := HN.out; omega
            have dx := two_pow_digits hxb (by omega)
            have P1 := fun V hV => hid (p_plus V y1 x (two_pow_digits hy1b (by omega)) dx (two_pow_digits (i := i + 1) (by omega) (by omega)) hV)
            have P2 := fun V hV => hid (p_plus V y2 x (two_pow_digits hy2b (by omega)) dx (two_pow_digits (i := i + 1) (by omega) (by omega)) hV)
            have t1 : wr.cell? ⟨g8, i + j, none⟩ = some (.string (numB y1)) := by rw [← hy1]; exact hg8.out.cell (by rw [TBJ.out.1.l2]; have := HLT.out; omega)
            have t2 : wr.cell? ⟨g7, i + j, none⟩ = some (.string (numB y2)) := by rw [← hy2]; exact hg7.out.cell (by rw [TBJ.out.1.l1]; have := HLT.out; omega)
            rw [HSX.out] at P1 P2
            obtain ⟨u1, hu1⟩ : ∃ s, numB y1 = s := ⟨_, rfl⟩
            obtain ⟨u2, hu2⟩ : ∃ s, numB y2 = s := ⟨_, rfl⟩
            rw [hu1] at P1 t1
            rw [hu2] at P2 t2
            have HY1 := hid hy1; have HY2 := hid hy2; have HU2 := hid hu2
            have hstep := hid (show tIn os zs i (j + 1) s0 = (addAt oj (i + j) x (tIn os zs i j s0).1, addAt zj (i + j) x (tIn os zs i j s0).2) from by rw [tIn, tStep, HOJ.out, HZJ.out, TBJ.out.2, HX.out])
            obtain ⟨m1, hm1⟩ : ∃ s, numB (y1 + x) = s := ⟨_, rfl⟩
            obtain ⟨m2, hm2⟩ : ∃ s, numB (y2 + x) = s := ⟨_, rfl⟩
            rw [hm1] at P1
            rw [hm2] at P2
            have HM1 := hid hm1; have HM2 := hid hm2
            clear hm1 hm2
            clear hy1 hy2 p2 hxb hy1b hy2b i1000 dx hu1 hu2
            cases zj
            · cases oj
              · go_wp2_with fail
                go_roundw
                case rel => exact ⟨j + 1, by go_num, by have := HLT.out; omega, by rw [hstep.out]; exact hg7, by rw [hstep.out]; exact hg8, hg1, hg2, hB⟩
                case measure => simp [intOf] <;> (have := HLT.out; omega)
              · go_wp2_with fail
                have ew : IntKind.i64.wrap ((i : Int) + (j : Int)) = (i : Int) + (j : Int) := by rw [IntWalk.i64_in _ ⟨by omega, by omega⟩]
                have et : ((i : Int) + (j : Int)).toNat = i + j := by omega
                refine held_lasts 15 2 [0, 1, 2, 3, 4, 5, 6, 7, 8, 9, 10, 11, 12, 13] 1 (fun W' => W'.cell? ⟨g7, i + j, none⟩ = some (.string u2) ∧ W'.cell? ⟨g7, i, none⟩ = some (.string sx)) (by kernel_rfl) rfl (by kernel_rfl) (by kernel_rfl) (by kernel_rfl) (by kernel_rfl) ⟨t2, k0⟩ ?_
                iterate 14
                  refine ⟨_, rfl, ?_⟩
                  apply Exists.intro
                  refine ⟨.inl ⟨by rfl, ?_⟩, ?_⟩
                  · (intro W' hW'; obtain ⟨r1, r2⟩ := hW'; go_simp; try (with_reducible rfl))
                  (dsimp only [Act.put]; try simp only [List.setIfInBounds_toArray, List.set_cons_zero, List.set_cons_succ])
                refine held_one (i := 14) (by kernel_rfl) (by rfl) (by rfl) ?_
                go_wp2_with fail
                refine (P2 _ (HL.out.below hB.out.drew HLL.out)).out.mono ?_; rintro e w5 ⟨rfl, hbc⟩
                have Ca := hid (show Below wr.heap.size wr w5 from (Below.refl _ _).drew.trans hbc)
                have E7a := hid (hg7.out.call Ca.out); have E8a := hid (hg8.out.call Ca.out); have E1a := hid (hg1.out.call Ca.out); have E2a := hid (hg2.out.call Ca.out); have EBa := hid (hB.out.trans (Ca.out.mono hB.out.size))
                have tca := (Ca.out.cell (cell_lt t2)).trans t2
                have kca := (Ca.out.cell (cell_lt k0)).trans k0
                clear hbc
                go_wp2_with fail
                refine ⟨⟨tca, kca⟩, ?_⟩
                refine wpAnyH_done (by kernel_rfl) ?_ _
                simp only [Only, ThenL, List.drop_succ_cons, List.drop_zero]
                have fza := E7a.out.free (i + j)
                clear kca
                go_wp2_with fail
                try simp only [Only]
                go_roundw
                case rel =>
                  refine ⟨j + 1, by go_num, by have := HLT.out; omega, ?_, ?_, E1a.out.other (fun e => M17.out e.symm) _, E2a.out.other (fun e => M27.out e.symm) _, EBa.out.setCell Q7.out _⟩
                  · show NRowT _ _ _
                    rw [hstep.out, addAt_true, HY2.out, ← HM2.out]
                    exact E7a.out.set (i + j) (y2 + x)
                  · show NRowT _ _ _
                    rw [hstep.out, addAt_false]
                    exact E8a.out.other (fun e => NE.out e) _
                case measure => simp [intOf] <;> (have := HLT.out; omega)
            · cases oj
              · go_wp2_with fail
                have ew : IntKind.i64.wrap ((i : Int) + (j : Int)) = (i : Int) + (j : Int) := by rw [IntWalk.i64_in _ ⟨by omega, by omega⟩]
                have et : ((i : Int) + (j : Int)).toNat = i + j := by omega
                refine held_lasts 15 2 [0, 1, 2, 3, 4, 5, 6, 7, 8, 9, 10, 11, 12, 13] 1 (fun W' => W'.cell? ⟨g8, i + j, none⟩ = some (.string u1) ∧ W'.cell? ⟨g7, i, none⟩ = some (.string sx)) (by kernel_rfl) rfl (by kernel_rfl) (by kernel_rfl) (by kernel_rfl) (by kernel_rfl) ⟨t1, k0⟩ ?_
                iterate 14
                  refine ⟨_, rfl, ?_⟩
                  apply Exists.intro
                  refine ⟨.inl ⟨by rfl, ?_⟩, ?_⟩
                  · (intro W' hW'; obtain ⟨r1, r2⟩ := hW'; go_simp; try (with_reducible rfl))
                  (dsimp only [Act.put]; try simp only [List.setIfInBounds_toArray, List.set_cons_zero, List.set_cons_succ])
                refine held_one (i := 14) (by kernel_rfl) (by rfl) (by rfl) ?_
                go_wp2_with fail
                refine (P1 _ (HL.out.below hB.out.drew HLL.out)).out.mono ?_; rintro e w5 ⟨rfl, hbc⟩
                have Ca := hid (show Below wr.heap.size wr w5 from (Below.refl _ _).drew.trans hbc)
                have E7a := hid (hg7.out.call Ca.out); have E8a := hid (hg8.out.call Ca.out); have E1a := hid (hg1.out.call Ca.out); have E2a := hid (hg2.out.call Ca.out); have EBa := hid (hB.out.trans (Ca.out.mono hB.out.size))
                have tca := (Ca.out.cell (cell_lt t1)).trans t1
                have kca := (Ca.out.cell (cell_lt k0)).trans k0
                clear hbc
                go_wp2_with fail
                refine ⟨⟨tca, kca⟩, ?_⟩
                refine wpAnyH_done (by kernel_rfl) ?_ _
                simp only [Only, ThenL, List.drop_succ_cons, List.drop_zero]
                have fza := E8a.out.free (i + j)
                have c1s : (w5.setCell ⟨g8, i + j, none⟩ (.string m1)).cell? ⟨g1, j, none⟩ = some (.bool false) := ((E1a.out.other (a := ⟨g8, i + j, none⟩) (fun e => M18.out e.symm) (.string m1)).cell j).trans (by rw [List.getElem?_toArray, allB_get (by have := HLT.out; omega), HOJ.out])
                clear kca
                go_wp2_with fail
                try simp only [Only]
                go_roundw
                case rel =>
                  refine ⟨j + 1, by go_num, by have := HLT.out; omega, ?_, ?_, E1a.out.other (fun e => M18.out e.symm) _, E2a.out.other (fun e => M28.out e.symm) _, EBa.out.setCell Q8.out _⟩
                  · show NRowT _ _ _
                    rw [hstep.out, addAt_false]
                    exact E7a.out.other (fun e => NE.out e.symm) _
                  · show NRowT _ _ _
                    rw [hstep.out, addAt_true, HY1.out, ← HM1.out]
                    exact E8a.out.set (i + j) (y1 + x)
                case measure => simp [intOf] <;> (have := HLT.out; omega)
              · go_wp2_with fail
                have ew : IntKind.i64.wrap ((i : Int) + (j : Int)) = (i : Int) + (j : Int) := by rw [IntWalk.i64_in _ ⟨by omega, by omega⟩]
                have et : ((i : Int) + (j : Int)).toNat = i + j := by omega
                refine held_lasts 15 2 [0, 1, 2, 3, 4, 5, 6, 7, 8, 9, 10, 11, 12, 13] 1 (fun W' => W'.cell? ⟨g8, i + j, none⟩ = some (.string u1) ∧ W'.cell? ⟨g7, i, none⟩ = some (.string sx)) (by kernel_rfl) rfl (by kernel_rfl) (by kernel_rfl) (by kernel_rfl) (by kernel_rfl) ⟨t1, k0⟩ ?_
                iterate 14
                  refine ⟨_, rfl, ?_⟩
                  apply Exists.intro
                  refine ⟨.inl ⟨by rfl, ?_⟩, ?_⟩
                  · (intro W' hW'; obtain ⟨r1, r2⟩ := hW'; go_simp; try (with_reducible rfl))
                  (dsimp only [Act.put]; try simp only [List.setIfInBounds_toArray, List.set_cons_zero, List.set_cons_succ])
                refine held_one (i := 14) (by kernel_rfl) (by rfl) (by rfl) ?_
                go_wp2_with fail
                refine (P1 _ (HL.out.below hB.out.drew HLL.out)).out.mono ?_; rintro e w5 ⟨rfl, hbc⟩
                have Ca := hid (show Below wr.heap.size wr w5 from (Below.refl _ _).drew.trans hbc)
                have E7a := hid (hg7.out.call Ca.out); have E8a := hid (hg8.out.call Ca.out); have E1a := hid (hg1.out.call Ca.out); have E2a := hid (hg2.out.call Ca.out); have EBa := hid (hB.out.trans (Ca.out.mono hB.out.size))
                have tca := (Ca.out.cell (cell_lt t1)).trans t1
                have kca := (Ca.out.cell (cell_lt k0)).trans k0
                clear hbc
                go_wp2_with fail
                refine ⟨⟨tca, kca⟩, ?_⟩
                refine wpAnyH_done (by kernel_rfl) ?_ _
                simp only [Only, ThenL, List.drop_succ_cons, List.drop_zero]
                have fza := E8a.out.free (i + j)
                have c1s : (w5.setCell ⟨g8, i + j, none⟩ (.string m1)).cell? ⟨g1, j, none⟩ = some (.bool true) := ((E1a.out.other (a := ⟨g8, i + j, none⟩) (fun e => M18.out e.symm) (.string m1)).cell j).trans (by rw [List.getElem?_toArray, allB_get (by have := HLT.out; omega), HOJ.out])
                clear kca
                go_wp2_with fail
                try simp only [Only]
                obtain ⟨w6, hw6⟩ : ∃ W, w5.setCell ⟨g8, i + j, none⟩ (.string m1) = W := ⟨_, rfl⟩
                have F7 : Hid (NRowT w6 g7 (tIn os zs i j s0).1) := by rw [← hw6]; exact E7a.out.other (fun e => NE.out e.symm) _
                have F8 : Hid (NRowT w6 g8 ((tIn os zs i j s0).2.set (i + j) (y1 + x))) := by rw [← hw6, ← HM1.out]; exact E8a.out.set (i + j) (y1 + x)
                have F1 : Hid (Blk w6 g1 (allB os n).toArray 4) := by rw [← hw6]; exact E1a.out.other (fun e => M18.out e.symm) _
                have F2 : Hid (Blk w6 g2 (allB zs n).toArray 4) := by rw [← hw6]; exact E2a.out.other (fun e => M28.out e.symm) _
                have FB : Hid (Below w.heap.size w w6) := by rw [← hw6]; exact EBa.out.setCell Q8.out _
                have k6 : w6.cell? ⟨g7, i, none⟩ = some (.string sx) := by
                  refine (F7.out.cell (by rw [TBJ.out.1.l1]; exact IL.out)).trans ?_
                  rw [TBJ.out.2, HX.out, HSX.out]
                have t6 : w6.cell? ⟨g7, i + j, none⟩ = some (.string u2) := by
                  refine (F7.out.cell (by rw [TBJ.out.1.l1]; have := HLT.out; omega)).trans ?_
                  rw [HY2.out, HU2.out]
                rw [hw6]
                clear hw6 c1s fza tca ew t1 t2 k0
                have ew : IntKind.i64.wrap ((i : Int) + (j : Int)) = (i : Int) + (j : Int) := by rw [IntWalk.i64_in _ ⟨by omega, by omega⟩]
                have et : ((i : Int) + (j : Int)).toNat = i + j := by omega
                refine held_lasts 15 2 [0, 1, 2, 3, 4, 5, 6, 7, 8, 9, 10, 11, 12, 13] 1 (fun W' => W'.cell? ⟨g7, i + j, none⟩ = some (.string u2) ∧ W'.cell? ⟨g7, i, none⟩ = some (.string sx)) (by kernel_rfl) rfl (by kernel_rfl) (by kernel_rfl) (by kernel_rfl) (by kernel_rfl) ⟨t6, k6⟩ ?_
                iterate 14
                  refine ⟨_, rfl, ?_⟩
                  apply Exists.intro
                  refine ⟨.inl ⟨by rfl, ?_⟩, ?_⟩
                  · (intro W' hW'; obtain ⟨r1, r2⟩ := hW'; go_simp; try (with_reducible rfl))
                  (dsimp only [Act.put]; try simp only [List.setIfInBounds_toArray, List.set_cons_zero, List.set_cons_succ])
                refine held_one (i := 14) (by kernel_rfl) (by rfl) (by rfl) ?_
                go_wp2_with fail
                refine (P2 _ (HL.out.below FB.out.drew HLL.out)).out.mono ?_; rintro e w7 ⟨rfl, hbc⟩
                have Cb := hid (show Below w6.heap.size w6 w7 from (Below.refl _ _).drew.trans hbc)
                have E7b := hid (F7.out.call Cb.out); have E8b := hid (F8.out.call Cb.out); have E1b := hid (F1.out.call Cb.out); have E2b := hid (F2.out.call Cb.out); have EBb := hid (FB.out.trans (Cb.out.mono FB.out.size))
                have tcb := (Cb.out.cell (cell_lt t6)).trans t6
                have kcb := (Cb.out.cell (cell_lt k6)).trans k6
                clear hbc
                go_wp2_with fail
                refine ⟨⟨tcb, kcb⟩, ?_⟩
                refine wpAnyH_done (by kernel_rfl) ?_ _
                simp only [Only, ThenL, List.drop_succ_cons, List.drop_zero]
                have fzb := E7b.out.free (i + j)
                clear kcb
                go_wp2_with fail
                try simp only [Only]
                go_roundw
                case rel =>
                  refine ⟨j + 1, by go_num, by have := HLT.out; omega, ?_, ?_, E1b.out.other (fun e => M17.out e.symm) _, E2b.out.other (fun e => M27.out e.symm) _, EBb.out.setCell Q7.out _⟩
                  · show NRowT _ _ _
                    rw [hstep.out, addAt_true, HY2.out, ← HM2.out]
                    exact E7b.out.set (i + j) (y2 + x)
                  · show NRowT _ _ _
                    rw [hstep.out, addAt_true, addAt_true, HY1.out]
                    exact E8b.out.other (fun e => NE.out e) _
                case measure => simp [intOf] <;> (have := HLT.out; omega)
          · have q2 : decide ((i : Int) + (j : Int) ≤ (n : Int)) = false := by simp; omega
            have e1 : j = n + 1 - i := by omega
            have f7 : (j : Int) ≤ 1001 := by have := HN.out; omega
            have f5 : (0 : Int) ≤ (j : Int) := by omega
            subst e1
            clear hj hlt
            go_wp2_with fail
            go_roundw
            case rel => exact ⟨i + 1, by go_num, by have := IL.out; omega, by rw [hnext.out]; exact hg7, by rw [hnext.out]; exact hg8, hg1, hg2, hB⟩
            case measure => simp [intOf] <;> (have := IL.out; omega)
    · have q0 : decide ((i : Int) < ((n + 1 : Nat) : Int)) = false := by simp; omega
      have e1 : i = n + 1 := by omega
      subst e1
      go_wp2_with fail
      go_ret
      exact ⟨⟨g8, rfl, Q8.out, by rw [HOS.out, HZS.out]; exact hg8.out⟩, hB.out⟩
end Go.Proofs.YtccalhlhdiapiaaGreatDoor
namespace Go.Proofs.YtccalhlhdiapiaaGreatDoor
open Go.RowKit Go.Shelf
open Go.Lib (decDigits nDigits)
set_option linter.unusedVariables false
set_option linter.unusedSimpArgs false
def rowV (n g : Nat) : Value := .slice (some ⟨g, 0, none⟩) (n + 1) (n + 1)
structure TabR (W : World) (gt n : Nat) (f : Nat → List Nat) : Prop where
  len : ∀ i, i ≤ n → (f i).length = n + 1
  ex : ∃ g c, n + 1 ≤ c ∧ c ≤ 9223372036854775807 ∧ W.cell? ⟨gt, 0, none⟩ = some (.slice (some ⟨g, 0, none⟩) (n + 1) c) ∧ W.cell? ⟨gt, 1, none⟩ = some (.string ⟨#[48]⟩) ∧ ∀ i, i ≤ n → ∃ gr, W.cell? ⟨g, i, none⟩ = some (rowV n gr) ∧ NRowT W gr (f i)
theorem TabR.call {W W' : World} {gt n : Nat} {f : Nat → List Nat} (h : TabR W gt n f) (hb : Below W.heap.size W W') : TabR W' gt n f := by
  obtain ⟨h0, g, c, h1, h2, h3, h4, h5⟩ := h
  refine ⟨h0, g, c, h1, h2, (hb.cell (cell_lt h3)).trans h3, (hb.cell (cell_lt h4)).trans h4, fun i hi => ?_⟩
  obtain ⟨gr, k1, k2⟩ := h5 i hi
  exact ⟨gr, (hb.cell (cell_lt k1)).trans k1, k2.call hb⟩
set_option maxRecDepth 100000 in
set_option maxHeartbeats 1000000 in
theorem tb_at (w : World) (gt n i k : Nat) (f : Nat → List Nat) (h : TabR w gt n f) (hi : i ≤ n) (hk : k ≤ n) (hn : n ≤ 100000) :
    Calls Tryz.prog 122 #[.pointer (some ⟨gt, 0, none⟩), .int .i64 (i : Nat), .int .i64 (k : Nat)] w fun e w' => e = .returned (.string (numB ((f i).getD k 0))) ∧ w = w' := by
  obtain ⟨h0, g, c, h1, h2, r0, r1, h5⟩ := h
  obtain ⟨gr, r2, k2⟩ := h5 i hi
  have r3 := k2.cell (i := k) (by rw [h0 i hi]; omega)
  unfold rowV at r2
  obtain ⟨X, hX⟩ : ∃ s, numB ((f i).getD k 0) = s := ⟨_, rfl⟩
  rw [hX] at r3 ⊢
  have b1 : (0 : Int) ≤ (i : Int) := by omega
  have b2 : (i : Int) < ((n + 1 : Nat) : Int) := by omega
  have b3 : (0 : Int) ≤ (k : Int) := by omega
  have b4 : (k : Int) < ((n + 1 : Nat) : Int) := by omega
  obtain ⟨m, hm⟩ : ∃ m, n + 1 = m := ⟨_, rfl⟩
  rw [hm] at r0 r2 b2 b4 h1
  have t1 : decide ((i : Int) < 0) = false := by simp
  have t2 : decide (m ≤ i) = false := by simp; omega
  have t3 : decide ((k : Int) < 0) = false := by simp
  have t4 : decide (m ≤ k) = false := by simp; omega
  clear h0 h5 k2 hX hi hk hn hm
  go_enter Tryz.func122, Tryz.ntmps122
  go_wp2_with fail
  go_ret
  exact ⟨rfl, rfl⟩
structure TabO (W : World) (H gt : Nat) (rv : Value) (gs : List Nat) (n r : Nat) (f : Nat → List Nat) : Prop where
  blk : Blk W gt #[rv, .string ⟨#[48]⟩] 139
  own : W.ownsRow H 50 1 rv gs.length (gs.map (rowV n))
  rows : ∀ i g, i < r → gs[i]? = some g → NRowT W g (f i)
  ne : rv.ownBlock ≠ some gt
  sep : ∀ i g, i < r → gs[i]? = some g → rv.ownBlock ≠ some g
  gne : ∀ i g, i < r → gs[i]? = some g → g ≠ gt
theorem NRowT.lt' {w : World} {g : Nat} {l : List Nat} (h : NRowT w g l) : g < w.heap.size := Blk.lt h
theorem owns_set {W : World} {H : Nat} {e : TypeId} {rv : Value} {n : Nat} {xs : List Value} (h : W.ownsRow H e 1 rv n xs) {a : Addr} (h2 : rv.ownBlock ≠ some a.block) (v : Value) : (W.setCell a v).ownsRow H e 1 rv n xs := by
  refine ⟨h.1, ?_⟩
  rcases h.2 with h0 | ⟨g, cap, cur, rfl, k1, k2, k3⟩
  · exact .inl h0
  · refine .inr ⟨g, cap, cur, rfl, k1, ?_, k3⟩
    have hg : g ≠ a.block := fun e => h2 (by rw [← e]; rfl)
    rw [← k2]
    unfold World.setCell
    simp [Array.getElem?_modify, Ne.symm hg]
theorem TabO.call {W W' : World} {H gt : Nat} {rv : Value} {gs : List Nat} {n r : Nat} {f : Nat → List Nat} (h : TabO W H gt rv gs n r f) (hb : Below W.heap.size W W') : TabO W' H gt rv gs n r f :=
  ⟨h.blk.call hb, owns_call h.own hb, fun i g hi hg => (h.rows i g hi hg).call hb, h.ne, h.sep, h.gne⟩
theorem TabO.other {W : World} {H gt : Nat} {rv : Value} {gs : List Nat} {n r : Nat} {f : Nat → List Nat} (h : TabO W H gt rv gs n r f) {a : Addr} (h1 : a.block ≠ gt) (h2 : rv.ownBlock ≠ some a.block) (h3 : ∀ i g, i < r → gs[i]? = some g → a.block ≠ g) (v : Value) : TabO (W.setCell a v) H gt rv gs n r f := by
  exact ⟨h.blk.other h1 v, owns_set h.own h2 v, fun i g hi hg => (h.rows i g hi hg).other (h3 i g hi hg) v, h.ne, h.sep, h.gne⟩
structure KpR (gt : Nat) (rb : Option Nat) (W W' : World) : Prop where
  os : W'.os = W.os
  tape : W'.tape = W.tape
  output : W'.output = W.output
  size : W.heap.size ≤ W'.heap.size
  block : ∀ i, i < W.heap.size → i ≠ gt → some i ≠ rb → W'.heap[i]? = W.heap[i]?
theorem TabO.drew {W : World} {H gt : Nat} {rv : Value} {gs : List Nat} {n r : Nat} {f : Nat → List Nat} (h : TabO W H gt rv gs n r f) : TabO W.drew H gt rv gs n r f := ⟨h.blk, h.own, h.rows, h.ne, h.sep, h.gne⟩
theorem KpR.drew {gt : Nat} {rb : Option Nat} {W W' : World} (h : KpR gt rb W W') : KpR gt rb W W'.drew := ⟨h.os, h.tape, h.output, h.size, h.block⟩
theorem info_nums : (Tryz.prog.info? 50).map (fun i => (i.zero, i.size, i.bytes)) = some (some (.slice none 0 0), 1, 24) := by kernel_rfl
set_option maxRecDepth 100000 in
set_option maxHeartbeats 4000000 in
theorem tb_row (w : World) (H gt : Nat) (rv : Value) (gs : List Nat) (n r : Nat) (f : Nat → List Nat) (h : TabO w H gt rv gs n r f) (hr : r ≤ gs.length) (hgs : gs.length ≤ 1000) (hn : n ≤ 1000) (hH : H ≤ w.heap.size) :
    Calls Tryz.prog 167 #[.pointer (some ⟨gt, 0, none⟩), .int .i64 ((n + 1 : Nat) : Int)] w fun e w' => ∃ g rv', e = .returned (rowV n g) ∧ w.heap.size ≤ g ∧ NRowT w' g (List.replicate (n + 1) 0) ∧ TabO w' H gt rv' (gs ++ [g]) n r f ∧ rv'.ownBlock ≠ some g ∧ (rv'.ownBlock = rv.ownBlock ∨ ∃ b, rv'.ownBlock = some b ∧ w.heap.size ≤ b) ∧ KpR gt rv.ownBlock w w' := by
  obtain ⟨i0, hi, hz0, hz1, hz2⟩ := info_parts info_nums
  have HR := fun V g h => hid (s_Repeat V g (n + 1) ⟨#[48]⟩ (by omega) (by omega) h)
  have hgt : gt < w.heap.size := h.blk.lt
  have r0 := h.blk.cell 0
  have r1 := h.blk.cell 1
  simp at r0 r1
  have T0 := hid h
  have HGT := hid hgt; have HHS := hid hH; have HGS := hid hgs; have HRL := hid hr
  obtain ⟨ar, cr, hrv⟩ := owns_ex h.own
  obtain ⟨L, hL⟩ : ∃ L, gs.length = L := ⟨_, rfl⟩
  have HLL := hid hL
  obtain ⟨m, hm⟩ : ∃ m, n + 1 = m := ⟨_, rfl⟩
  have HM := hid hm
  have KK : Hid (∀ W, Below w.heap.size w W → W.cell? ⟨gt, 0, none⟩ = some rv ∧ W.cell? ⟨gt, 1, none⟩ = some (.string ⟨#[48]⟩)) := fun W hW => ⟨(hW.cell (cell_lt r0)).trans r0, (hW.cell (cell_lt r1)).trans r1⟩
  rw [hm] at HR ⊢
  have HRV := hid hrv
  clear h hgt hH hgs hr hL hm hrv hn
  go_enter Tryz.func167, Tryz.ntmps167
  go_wp2_with fail
  refine held_lasts 14 3 [0, 1, 2, 3, 4, 5, 6, 7, 8, 10] 4 (fun W' => W'.cell? ⟨gt, 0, none⟩ = some rv ∧ W'.cell? ⟨gt, 1, none⟩ = some (.string ⟨#[48]⟩)) (by kernel_rfl) rfl (by kernel_rfl) (by kernel_rfl) (by kernel_rfl) (by kernel_rfl) (KK.out _ (Below.refl _ _).drew) ?_
  iterate 10
    refine ⟨_, rfl, ?_⟩
    apply Exists.intro
    refine ⟨.inl ⟨by rfl, ?_⟩, ?_⟩
    · (intro W' hW'; obtain ⟨q1, q2⟩ := hW'; go_simp; try (with_reducible rfl))
    (dsimp only [Act.put]; try simp only [List.setIfInBounds_toArray, List.set_cons_zero, List.set_cons_succ])
  refine held_one (i := 9) (by kernel_rfl) (by rfl) (by rfl) ?_
  go_wp2_with fail
  have A1 := hid (show Below w.heap.size w (w.alloc (.cells #[.string ⟨#[48]⟩] 22)).drew from ((Below.refl _ _).alloc (Nat.le_refl _) _).drew)
  have C1 : (w.alloc (.cells #[.string ⟨#[48]⟩] 22)).drew.cell? ⟨w.heap.size, 0, none⟩ = some (.string ⟨#[48]⟩) := (Blk.new w #[.string ⟨#[48]⟩] 22).cell 0
  refine ⟨KK.out _ A1.out, ?_⟩
  refine held_one (i := 11) (by kernel_rfl) (by rfl) (by rfl) ?_
  go_wp2_with fail
  refine (HR _ _ C1).out.mono ?_; rintro e w2 ⟨rfl, hg, hb⟩
  obtain ⟨g, hgg⟩ : ∃ g, (w.alloc (.cells #[.string ⟨#[48]⟩] 22)).drew.heap.size = g := ⟨_, rfl⟩
  have B2 := hid (bnext A1.out hb)
  rw [hgg] at hg ⊢
  have HG : Hid (w.heap.size < g) := by rw [← hgg]; show _ < _; simp
  have R2 := hid (NRowT.zeros hg)
  have L2 := hid (show g < w2.heap.size from hg.lt)
  clear hg hb hgg C1
  go_wp2_with fail
  refine ⟨KK.out _ B2.out, ?_⟩
  refine held_one (i := 12) (by kernel_rfl) (by rfl) (by rfl) ?_
  go_wp2_with fail
  have A3 := hid (show Below w.heap.size w (w2.alloc (.cells #[.slice (some ⟨g, 0, none⟩) m m] 50)) from B2.out.alloc B2.out.size _)
  refine ⟨KK.out _ A3.out, ?_⟩
  refine held_one (i := 13) (by kernel_rfl) (by rfl) (by rfl) ?_
  have O3 := hid (((T0.out.call B2.out).own).alloc (.cells #[.slice (some ⟨g, 0, none⟩) m m] 50))
  refine wpList_append_own_at _ rfl _ _ 137 rfl H 50 i0 (.slice none 0 0) 1 24 Tryz.underlying137 hi hz0 hz1 hz2 rfl (by decide) rv gs.length (gs.map (rowV n)) rfl O3.out ⟨w2.heap.size, 0, none⟩ 1 1 [.slice (some ⟨g, 0, none⟩) m m] rfl rfl (cell_one_new w2 (.slice (some ⟨g, 0, none⟩) m m) 50) (by simp [Value.oneCell']) (by have := HGS.out; unfold maxLen; omega) (by have := HGS.out; omega) (by have := HHS.out; have := B2.out.size; simp; omega) ?_
  intro rv' w3 hown3 hgrow3 _ hat3
  have hat4 : rv'.ownBlock = rv.ownBlock ∨ rv'.ownBlock = some (w2.heap.size + 1) := by simpa using hat3
  have OW := hid hown3; have GR := hid hgrow3; have AT := hid hat4
  clear hown3 hgrow3 hat3 hat4
  have c30 : w3.cell? ⟨gt, 0, none⟩ = some rv := by
    have := GR.out.cell (KK.out _ A3.out).1 (fun e => T0.out.ne e.symm)
    exact this
  have c31 : w3.cell? ⟨gt, 1, none⟩ = some (.string ⟨#[48]⟩) := GR.out.cell (KK.out _ A3.out).2 (fun e => T0.out.ne e.symm)
  have X3 : Hid (Blk w3 gt #[rv, .string ⟨#[48]⟩] 139) := ((T0.out.blk.call B2.out).alloc _).grown GR.out (fun e => T0.out.ne e)
  go_wp2_with fail
  refine ⟨⟨c30, c31⟩, ?_⟩
  refine wpAnyH_done (by kernel_rfl) ?_ _
  simp only [Only, ThenL, List.drop_succ_cons, List.drop_zero]
  have f3 := X3.out.free 0
  have NE3 : Hid (rv'.ownBlock ≠ some gt) := by
    rcases AT.out with e | e
    · show rv'.ownBlock ≠ some gt
      rw [e]; exact T0.out.ne
    · show rv'.ownBlock ≠ some gt
      rw [e]; intro hh; have := Option.some.inj hh; have := HGT.out; have := B2.out.size; omega
  have NEG : Hid (rv'.ownBlock ≠ some g) := by
    rcases AT.out with e | e
    · show rv'.ownBlock ≠ some g
      rw [e]; intro hh; have := (T0.out.own.lt g hh).2; have := HG.out; omega
    · show rv'.ownBlock ≠ some g
      rw [e]; intro hh; have := Option.some.inj hh; have := L2.out; omega
  have AT2 : Hid (rv'.ownBlock = rv.ownBlock ∨ ∃ b, rv'.ownBlock = some b ∧ w.heap.size ≤ b) := AT.out.imp id fun e => ⟨_, e, Nat.le_succ_of_le B2.out.size⟩
  have KP : Hid (KpR gt rv.ownBlock w w3) := ⟨GR.out.os.trans A3.out.os, GR.out.tape.trans A3.out.tape, GR.out.output.trans A3.out.output, Nat.le_trans A3.out.size GR.out.size, fun i hi _ h2 => (GR.out.block i (by have := A3.out.size; omega) h2).trans (A3.out.block i hi)⟩
  have N3 : Hid (NRowT w3 g (List.replicate m 0)) := Blk.grown (Blk.alloc R2.out _) GR.out (fun e => by have := (T0.out.own.lt g e).2; have := HG.out; omega)
  have RO : Hid (∀ i g', i < r → gs[i]? = some g' → NRowT w3 g' (f i)) := fun i g' hi2 hg' => Blk.grown (Blk.alloc ((T0.out.rows i g' hi2 hg').call B2.out) _) GR.out (T0.out.sep i g' hi2 hg')
  have GSR : Hid (∀ i g', i < r → gs[i]? = some g' → g' ≠ gt) := fun i g' hi2 hg' => T0.out.gne i g' hi2 hg'
  obtain ⟨gr, cap, rfl⟩ := ownsRow_succ OW.out
  have HGR : Hid (gr ≠ gt) := fun e => NE3.out (by rw [e]; rfl)
  go_wp2_with fail
  try simp only [Only]
  obtain ⟨w4, hw4⟩ : ∃ W, w3.setCell ⟨gt, 0, none⟩ (.slice (some ⟨gr, 0, none⟩) (gs.length + 1) cap) = W := ⟨_, rfl⟩
  have T4 : Hid (TabO w4 H gt (.slice (some ⟨gr, 0, none⟩) (gs.length + 1) cap) (gs ++ [g]) n r f) := by
    refine ⟨?_, ?_, fun i g' hi2 hg' => ?_, NE3.out, ?_, ?_⟩
    · rw [← hw4]; exact X3.out.set 0 _
    · rw [← hw4, List.length_append, List.map_append]
      have hl : (gs.map (rowV n) ++ [Value.slice (some ⟨g, 0, none⟩) m m]) = gs.map (rowV n) ++ [g].map (rowV n) := by rw [← HM.out]; rfl
      rw [← hl]
      exact owns_set OW.out (fun e => HGR.out (by simpa [Value.ownBlock] using e)) _
    · have hlt : i < gs.length := Nat.lt_of_lt_of_le hi2 HRL.out
      rw [List.getElem?_append_left hlt] at hg'
      rw [← hw4]
      exact (RO.out i g' hi2 hg').other (GSR.out i g' hi2 hg').symm _
    · intro i g' hi2 hg'
      have hlt : i < gs.length := Nat.lt_of_lt_of_le hi2 HRL.out
      rw [List.getElem?_append_left hlt] at hg'
      rcases AT.out with e | e
      · rw [e]; exact T0.out.sep i g' hi2 hg'
      · rw [e]; intro hh; have := Option.some.inj hh; have := (T0.out.rows i g' hi2 hg').lt'; have := B2.out.size; omega
    · intro i g' hi2 hg'
      have hlt : i < gs.length := Nat.lt_of_lt_of_le hi2 HRL.out
      rw [List.getElem?_append_left hlt] at hg'
      exact T0.out.gne i g' hi2 hg'
  have N4 : Hid (NRowT w4 g (List.replicate m 0)) := by rw [← hw4]; exact N3.out.other (by have := HG.out; have := HGT.out; show gt ≠ g; omega) _
  have K4 : Hid (KpR gt rv.ownBlock w w4) := by
    rw [← hw4]
    refine ⟨KP.out.os, KP.out.tape, KP.out.output, by simpa [World.setCell] using KP.out.size, fun i hi h1 h2 => ?_⟩
    rw [← KP.out.block i hi h1 h2]
    unfold World.setCell
    simp [Array.getElem?_modify, Ne.symm h1]
  rw [hw4]
  have s0 := T4.out.blk.cell 0
  simp at s0
  have s1 : w4.cell? ⟨gr, gs.length, none⟩ = some (.slice (some ⟨g, 0, none⟩) m m) := by
    obtain ⟨g', o', e1, -, e2⟩ := (Row.of_owns T4.out.own).at (i := gs.length) (x := rowV n g) (by rw [List.map_append, List.getElem?_append_right (by simp)]; simp)
    simp only [Option.some.injEq, Addr.mk.injEq] at e1
    obtain ⟨rfl, rfl, -⟩ := e1
    rw [Nat.zero_add] at e2
    rw [e2, rowV, HM.out]
  have wl : IntKind.i64.wrap (((gs.length + 1 : Nat) : Int) - 1) = (gs.length : Int) := by rw [IntWalk.i64_in _ ⟨by omega, by have := HGS.out; omega⟩]; omega
  have wl2 : IntKind.i64.wrap ((gs.length : Int) + 1 - 1) = (gs.length : Int) := by rw [IntWalk.i64_in _ ⟨by omega, by have := HGS.out; omega⟩]; omega
  have b1 : (0 : Int) ≤ (gs.length : Int) := by omega
  have b2 : (gs.length : Int) < ((gs.length + 1 : Nat) : Int) := by omega
  have wl3 : IntKind.i64.wrap (gs.length : Int) = (gs.length : Int) := by rw [IntWalk.i64_in _ ⟨by omega, by have := HGS.out; omega⟩]
  have b3 : (gs.length : Int) < (gs.length : Int) + 1 := by omega
  clear hw4 c30 c31 f3
  refine held_plain [0, 1, 2, 3, 4, 5, 6, 7, 8, 9, 10, 11, 12] 0 (fun W' => W'.cell? ⟨gt, 0, none⟩ = some (.slice (some ⟨gr, 0, none⟩) (gs.length + 1) cap) ∧ W'.cell? ⟨gr, gs.length, none⟩ = some (.slice (some ⟨g, 0, none⟩) m m)) (by kernel_rfl) (by kernel_rfl) (by kernel_rfl) (by kernel_rfl) ⟨s0, s1⟩ ?_
  iterate 13
    refine ⟨_, rfl, ?_⟩
    apply Exists.intro
    refine ⟨.inl ⟨by rfl, ?_⟩, ?_⟩
    · (intro W' hW'; obtain ⟨q3, q4⟩ := hW'; go_simp; try (with_reducible rfl))
    (dsimp only [Act.put]; try simp only [List.setIfInBounds_toArray, List.set_cons_zero, List.set_cons_succ])
  refine wpAnyH_done (by kernel_rfl) ?_ _
  simp only [Only]
  go_wp2_with fail
  go_ret
  refine ⟨g, _, by rw [rowV, HM.out]; rfl, Nat.le_of_lt HG.out, N4.out, T4.out.drew, NEG.out, AT2.out, K4.out.drew⟩
end Go.Proofs.YtccalhlhdiapiaaGreatDoor
namespace Go.Proofs.YtccalhlhdiapiaaGreatDoor
open Go.RowKit Go.Shelf
open Go.Lib (decDigits nDigits)
set_option linter.unusedVariables false
set_option linter.unusedSimpArgs false
def bls (f : Nat → Bool) (j : Nat) : List Value := (List.range j).map fun i => Value.bool (f i)
theorem bls_len (f : Nat → Bool) (j : Nat) : (bls f j).length = j := by simp [bls]
theorem bls_succ (f : Nat → Bool) (j : Nat) : bls f (j + 1) = bls f j ++ [.bool (f j)] := by simp [bls, List.range_succ]
structure TsS (W : World) (B gc : Nat) (v1 v2 : Value) (j : Nat) (f1 f2 : Nat → Bool) : Prop where
  blk : Blk W gc #[v1, v2] 132
  o1 : W.ownsRow B 4 1 v1 j (bls f1 j)
  o2 : W.ownsRow B 4 1 v2 j (bls f2 j)
  n1 : v1.ownBlock ≠ some gc
  n2 : v2.ownBlock ≠ some gc
  n12 : ∀ g, v1.ownBlock = some g → v2.ownBlock ≠ some g
  b1 : ∀ g, v1.ownBlock = some g → B + 1 < g
  b2 : ∀ g, v2.ownBlock = some g → B + 1 < g
theorem TsS.call {W W' : World} {B gc : Nat} {v1 v2 : Value} {j : Nat} {f1 f2 : Nat → Bool} (h : TsS W B gc v1 v2 j f1 f2) (hb : Below W.heap.size W W') : TsS W' B gc v1 v2 j f1 f2 :=
  ⟨h.blk.call hb, owns_call h.o1 hb, owns_call h.o2 hb, h.n1, h.n2, h.n12, h.b1, h.b2⟩
theorem ts_next {W w5 w6 : World} {B gc J : Nat} {v1 v2 v1' v2' : Value} {f1 f2 : Nat → Bool} {o1 o2 : Obj} {x1 x2 : Bool} (h : TsS W B gc v1 v2 J f1 f2) (hgc : B + 1 < gc) (e1 : f1 J = x1) (e2 : f2 J = x2)
    (own1 : w5.ownsRow B 4 1 v1' (J + 1) (bls f1 J ++ [.bool x1])) (g1 : (W.alloc o1).grownBy w5 v1.ownBlock) (at1 : v1'.ownBlock = v1.ownBlock ∨ v1'.ownBlock = some (W.heap.size + 1))
    (own2 : w6.ownsRow B 4 1 v2' (J + 1) (bls f2 J ++ [.bool x2])) (g2 : (w5.alloc o2).grownBy w6 v2.ownBlock) (at2 : v2'.ownBlock = v2.ownBlock ∨ v2'.ownBlock = some (w5.heap.size + 1)) :
    TsS ((w6.setCell ⟨gc, 0, none⟩ v1').setCell ⟨gc, 1, none⟩ v2') B gc v1' v2' (J + 1) f1 f2 := by
  have hlt := h.blk.lt
  have s5 : W.heap.size + 1 ≤ w5.heap.size := by have := g1.size; simpa using this
  have n1 : v1'.ownBlock ≠ some gc := by
    rcases at1 with e | e
    · rw [e]; exact h.n1
    · rw [e]; intro e'; have := Option.some.inj e'; omega
  have n2 : v2'.ownBlock ≠ some gc := by
    rcases at2 with e | e
    · rw [e]; exact h.n2
    · rw [e]; intro e'; have := Option.some.inj e'; omega
  have k1 : v1'.ownBlock = none ∨ v1'.ownBlock ≠ v2.ownBlock := by
    cases hv : v1'.ownBlock with
    | none => exact .inl rfl
    | some g =>
      right
      intro e
      rcases at1 with e' | e'
      · rw [hv] at e'
        exact h.n12 g e'.symm e.symm
      · rw [hv] at e'
        have h1 := (h.o2.lt g e.symm).2
        have := Option.some.inj e'
        omega
  have oo1 : w6.ownsRow B 4 1 v1' (J + 1) (bls f1 J ++ [.bool x1]) := (own1.alloc o2).kept g2 k1
  have bk : Blk w6 gc #[v1, v2] 132 := Blk.grown ((Blk.grown (h.blk.alloc o1) g1 h.n1).alloc o2) g2 h.n2
  refine ⟨?_, ?_, ?_, n1, n2, ?_, ?_, ?_⟩
  · have := (bk.set 0 v1').set 1 v2'
    simpa using this
  · rw [bls_succ, e1]; exact owns_set (owns_set oo1 (a := ⟨gc, 0, none⟩) n1 _) (a := ⟨gc, 1, none⟩) n1 _
  · rw [bls_succ, e2]; exact owns_set (owns_set own2 (a := ⟨gc, 0, none⟩) n2 _) (a := ⟨gc, 1, none⟩) n2 _
  · intro g hg hg2
    rcases at2 with e | e
    · rw [e] at hg2
      rcases k1 with k | k
      · rw [k] at hg; cases hg
      · exact k (hg.trans hg2.symm)
    · rw [e] at hg2
      have h1 := (own1.lt g hg).2
      have := Option.some.inj hg2
      omega
  · intro g hg
    rcases at1 with e | e
    · rw [e] at hg; exact h.b1 g hg
    · rw [e] at hg; have := Option.some.inj hg; omega
  · intro g hg
    rcases at2 with e | e
    · rw [e] at hg; exact h.b2 g hg
    · rw [e] at hg; have := Option.some.inj hg; omega
theorem info_bool : (Tryz.prog.info? 4).map (fun i => (i.zero, i.size, i.bytes)) = some (some (.bool false), 1, 1) := by kernel_rfl
theorem ord_one (x : Nat) : (ordN (x % 2) 1 == 0) = decide (x % 2 = 1) := by
  have h := Nat.mod_two_eq_zero_or_one x
  rcases h with h | h
  · rw [h, ordN_lt (by omega)]; rfl
  · rw [h, ordN_eq]; rfl
theorem ord_nil (x : Nat) : (ordN x 0 == 0) = decide (x = 0) := by
  rcases Nat.eq_zero_or_pos x with h | h
  · rw [h, ordN_eq]; rfl
  · rw [ordN_gt h]
    have : decide (x = 0) = false := by simp; omega
    rw [this]; rfl
theorem numB_two' : numB 2 = ⟨#[50]⟩ := by unfold numB; rw [decDigits_small (by omega)]; rfl
end Go.Proofs.YtccalhlhdiapiaaGreatDoor
