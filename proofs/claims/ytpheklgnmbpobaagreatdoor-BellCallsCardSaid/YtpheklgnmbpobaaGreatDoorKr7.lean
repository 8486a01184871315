/- Texts that the proof rests on, merged: Bl5, Pl6b, PcH, R1l, R1m, R2d, R2e, R2f, R2i, R1b, R1d, R1k, R1n, R2h, R1q, R1f, R1g, R1h, R1i. -/
import Derived.Test.YtpheklgnmbpobaaGreatDoorKr6
import Derived.Laws.IdiomStrings
import Derived.WalkSpells
import Derived.IntWalk
import Derived.Deep.RegionHeld3
import Derived.Deep.DeepCutAuto
import Derived.Deep.CutBlock
namespace Go.Proofs.YtpheklgnmbpobaaGreatDoor
open Go.RowKit Go.Shelf
open Go.Lib (decDigits nDigits)
set_option linter.unusedVariables false
set_option linter.unusedSimpArgs false
set_option maxRecDepth 100000 in
set_option maxHeartbeats 8000000 in
theorem bw_main (w : World) (q : ByteArray) (m : Nat) (hq : q.size ≤ 100000) (hL : Lay w) (h0 : qE q = 0) (h1 : ¬ (cW q = ⟨#[48]⟩ ∨ iM (cW q) = true ∨ bN (qD q) < bN (cW q) ∨ (m : Int) < 0 ∨ 16 < (m : Int))) :
    Calls Tryz.prog 11 #[.string q, .int .i64 (m : Nat)] w fun e w' => (∃ u, e = .returned (.tuple #[u, .int .i64 (beE q m)]) ∧ Row w' u (strs (beW q m))) ∧ Below w.heap.size w w' := by
  have HP := hid (q_Parts w q (by omega) hL)
  have HL := hid hL
  have HNOT := hid (fun k (hk : k ≤ m) => beE_not (k := k) h0 h1 hk)
  have HYES := hid (beE_yes h0 h1)
  have HW := hid (fun h : beE q m = 0 => beW_is h)
  have HW5 : Hid (beE q m = 5 → beW q m = []) := fun h => by unfold beW; rw [h, if_neg (by decide)]
  have e3 : pW q = cW q := by unfold pW; rw [if_pos h0]
  have e4 : pD q = qD q := by unfold pD; rw [if_pos h0]
  rw [e3, e4, h0] at HP
  have hp := cW_pos h0
  have hm : ∀ h, ((((cW q)[0]'h).toNat : Int) == 45) = iM (cW q) := fun h => iM_at h
  have p1 : (0 : Int) < ((cW q).size : Int) := by omega
  have n0 := ne_lit (d := cW q) (l := [48]) (fun h => h1 (.inl h))
  have c1 : iM (cW q) = false := by
    cases e : iM (cW q)
    · rfl
    · exact absurd (.inr (.inl e)) h1
  simp only [c1] at hm
  obtain ⟨v1, v2, v3, v4, v5⟩ := whole_is h0 c1
  have HC := fun V => hid (pk_cmp V (bN (cW q)) (bN (qD q)) v4 v5)
  have hpos := ordN_pos (a := bN (cW q)) (b := bN (qD q))
  rw [decide_eq_false (fun h => h1 (.inr (.inr (.inl h))))] at hpos
  have hN0 : 0 < bN (cW q) := by
    rcases Nat.eq_zero_or_pos (bN (cW q)) with e | e
    · exact absurd (.inl (by rw [v1, e, numB_zero])) h1
    · exact e
  have hm16 : m ≤ 16 := by
    have : ¬ 16 < (m : Int) := fun h => h1 (.inr (.inr (.inr (.inr h))))
    omega
  have hmm : m * m ≤ 256 := Nat.mul_le_mul hm16 hm16
  have TN := fun V hV => hid (b_table V (bN (cW q)) (m * m) hN0 v4 (by omega) hV)
  have TD := fun V hV => hid (b_table V (bN (qD q)) (m * m) v3 v5 (by omega) hV)
  rw [← v1] at TN
  rw [← v2] at TD
  rw [← v1, ← v2] at HC
  have CS := hid (fun k => be_cases (t := m) (k := k) hN0 v3)
  have HF := hid (fun k => hfL_succ (bN (cW q)) (bN (qD q)) m k)
  have HFA := hid (hfL_all (bN (cW q)) (bN (qD q)) m)
  have HF0 : Hid (hfL (bN (cW q)) (bN (qD q)) m 0 = []) := rfl
  have HFL : Hid (∀ k, (hfL (bN (cW q)) (bN (qD q)) m k).length = k) := fun k => by simp [hfL]
  rw [Int.toNat_natCast] at HW
  obtain ⟨NN, hNN⟩ : ∃ x, bN (cW q) = x := ⟨_, rfl⟩
  obtain ⟨DD, hDD⟩ : ∃ x, bN (qD q) = x := ⟨_, rfl⟩
  obtain ⟨z, hz⟩ : ∃ z, ordN (bN (cW q)) (bN (qD q)) = z := ⟨_, rfl⟩
  rw [hz] at HC hpos
  obtain ⟨Ns, hNs⟩ : ∃ s, cW q = s := ⟨_, rfl⟩
  obtain ⟨Ds, hDs⟩ : ∃ s, qD q = s := ⟨_, rfl⟩
  simp only [hNN, hDD] at HNOT HYES HW TN TD CS HF HFA HF0 HFL
  rw [hNs] at hm
  simp only [hNs, hDs] at HP n0 p1 HC TN TD
  replace hm := hm (by omega)
  obtain ⟨bE, hbE⟩ : ∃ x, beE q m = x := ⟨_, rfl⟩
  obtain ⟨bW, hbW⟩ : ∃ x, beW q m = x := ⟨_, rfl⟩
  rw [hbE] at HNOT HYES HW HW5 ⊢
  rw [hbW] at HW HW5 ⊢
  have PM := fun V k hV => hid (n_Mul V (pwT NN (k * k)) (pwT DD (m * m - k * k)) (by have := pwT_size NN (k * k); omega) (by have := pwT_size DD (m * m - k * k); omega) hV)
  have GN : Hid (∀ i, i < m * m + 1 → (pwL NN (m * m + 1))[i]? = some (pwT NN i)) := fun i h => pwL_get h
  have GD : Hid (∀ i, i < m * m + 1 → (pwL DD (m * m + 1))[i]? = some (pwT DD i)) := fun i h => pwL_get h
  have LN := hid (pwL_length NN (m * m + 1))
  have LD := hid (pwL_length DD (m * m + 1))
  have HKK : Hid (∀ k, k ≤ m → k * k ≤ m * m) := fun k hk => Nat.mul_le_mul hk hk
  have wmm0 : (m : Int) * (m : Int) = ((m * m : Nat) : Int) := by rw [Int.natCast_mul]
  obtain ⟨AL, hAL⟩ : ∃ x, pwL NN (m * m + 1) = x := ⟨_, rfl⟩
  obtain ⟨BL, hBL⟩ : ∃ x, pwL DD (m * m + 1) = x := ⟨_, rfl⟩
  rw [hAL] at TN GN LN
  rw [hBL] at TD GD LD
  obtain ⟨MM, hMM⟩ : ∃ x, m * m = x := ⟨_, rfl⟩
  rw [hMM] at hmm TN TD GN GD LN LD wmm0 HKK
  simp only [hMM] at CS PM
  have i1 : (0 : Int) ≤ (m : Int) := by omega
  have t1 : decide ((m : Int) < 0) = false := by simp
  have t2 : decide ((16 : Int) < (m : Int)) = false := by simp; omega
  have wmm : IntKind.i64.wrap ((m : Int) * (m : Int)) = (MM : Int) := by rw [wmm0, IntWalk.i64_in _ ⟨by omega, by omega⟩]
  have wm1 : IntKind.i64.wrap ((m : Int) + 1) = ((m + 1 : Nat) : Int) := by rw [IntWalk.i64_in _ ⟨by omega, by omega⟩]; omega
  have M16 := hid hm16; have MM256 := hid hmm
  obtain ⟨i0, hi, hz0, hz1, hz2⟩ := info_parts info_num
  clear hL h0 h1 e3 e4 hp c1 v1 v2 v3 v4 v5 hN0 hNN hDD hz hNs hDs hbE hbW hAL hBL hMM wmm0 hm16 hmm
  go_enter Tryz.func11, Tryz.ntmps11
  go_wp2_with fail
  refine HP.out.mono ?_; rintro e w1 ⟨rfl, hb1⟩
  have y1 := hid hb1; clear hb1
  go_wp2_with fail
  refine (HC _).out.mono ?_; rintro e w2 ⟨rfl, hb2⟩
  have y2 := hid (bnext y1.out hb2); clear hb2
  go_wp2_with fail
  refine (TN _ (HL.out.call y2.out)).out.mono ?_; rintro e w3 ⟨⟨u3, rfl, hu3⟩, hb3⟩
  have y3 := hid (bnext y2.out hb3)
  have U3 := hid hu3
  obtain ⟨a3, c3, rfl, k1, k2, -⟩ := hu3.openS
  rw [LN.out] at U3 k1 ⊢
  clear hb3 hu3
  go_wp2_with fail
  refine (TD _ (HL.out.call y3.out)).out.mono ?_; rintro e w4 ⟨⟨u4, rfl, hu4⟩, hb4⟩
  have y4 := hid (bnext y3.out hb4)
  have V3 := hid (U3.out.call hb4)
  have U4 := hid hu4
  obtain ⟨a4, c4, rfl, k3, k4, -⟩ := hu4.openS
  rw [LD.out] at U4 k3 ⊢
  clear hb4 hu4
  go_wp2_with fail
  go_loopw [11, 61] (fun s11 s61 wr => ∃ k : Nat, s61 = .int .i64 (k : Nat) ∧ k ≤ m + 1 ∧ Hid (∀ j, j < k → nDigits (beN NN DD m j) ≤ 3800) ∧ Hid (wr.ownsRow w4.heap.size 22 1 s11 k (strs (hfL NN DD m k))) ∧ Hid (Below w4.heap.size w4 wr)) (fun s11 s61 wr => m + 1 - (intOf s61).toNat)
  case atStart => exact ⟨0, rfl, Nat.zero_le _, fun j hj => absurd hj (by omega), by rw [HF0.out]; exact ⟨rfl, .inl ⟨rfl, rfl⟩⟩, Below.refl _ _⟩
  case round =>
    obtain ⟨k, rfl, hk, hI, hO, hB⟩ := hrel
    obtain ⟨a5, c5, rfl⟩ := owns_ex hO.out
    have yr := hid (bnext y4.out hB.out)
    by_cases hlt : k < m + 1
    · have hkk := HKK.out k (by omega)
      obtain ⟨g1, o1, rfl, f1, r1⟩ := V3.out.at (strs_get (GN.out (k * k) (by omega)))
      obtain ⟨g2, o2, rfl, f2, r2⟩ := U4.out.at (strs_get (GD.out (MM - k * k) (by omega)))
      have r1 := (hB.out.cell (p := ⟨g1, o1 + k * k, none⟩) f1).trans r1
      have r2 := (hB.out.cell (p := ⟨g2, o2 + (MM - k * k), none⟩) f2).trans r2
      have PK := PM wr k (HL.out.call yr.out)
      have cs := CS.out k
      have wkk0 : (k : Int) * (k : Int) = ((k * k : Nat) : Int) := by rw [Int.natCast_mul]
      obtain ⟨kk, hkk'⟩ : ∃ x, k * k = x := ⟨_, rfl⟩
      rw [hkk'] at hkk r1 r2 wkk0
      have PMK := PM
      simp only [hkk'] at cs PK
      obtain ⟨dd, hdd⟩ : ∃ x, MM - kk = x := ⟨_, rfl⟩
      rw [hdd] at r2
      simp only [hdd] at cs PK
      have PKV : ∀ V, Lay V → Hid (Calls Tryz.prog 38 #[.string (pwT NN kk), .string (pwT DD dd)] V fun e w' => e = .returned (.tuple #[.string (natB ((· * ·)) (pwT NN kk) (pwT DD dd)), .int .i64 (natE ((· * ·)) (pwT NN kk) (pwT DD dd))]) ∧ Below V.heap.size V w') := fun V hV => by
        have h := PMK V k hV
        rw [hkk', hdd] at h
        exact h
      obtain ⟨Xk, hXk⟩ : ∃ x, pwT NN kk = x := ⟨_, rfl⟩
      obtain ⟨Yk, hYk⟩ : ∃ x, pwT DD dd = x := ⟨_, rfl⟩
      obtain ⟨Wk, hWk⟩ : ∃ x, natB ((· * ·)) (pwT NN kk) (pwT DD dd) = x := ⟨_, rfl⟩
      obtain ⟨Ek, hEk⟩ : ∃ x, natE ((· * ·)) (pwT NN kk) (pwT DD dd) = x := ⟨_, rfl⟩
      rw [hWk, hEk, hXk, hYk] at PKV
      rw [hWk, hEk, hXk, hYk] at cs
      rw [hXk] at r1
      rw [hYk] at r2
      have hM := MM256.out
      have hM16 := M16.out
      have wkk : IntKind.i64.wrap ((k : Int) * (k : Int)) = (kk : Int) := by rw [wkk0, IntWalk.i64_in _ ⟨by omega, by omega⟩]
      have wdd : IntKind.i64.wrap ((MM : Int) - (kk : Int)) = (dd : Int) := by rw [IntWalk.i64_in _ ⟨by omega, by omega⟩]; omega
      have b1 : (0 : Int) ≤ (kk : Int) := by omega
      have b2 : (kk : Int) < ((MM + 1 : Nat) : Int) := by omega
      have b2' : (kk : Int) < (MM : Int) + 1 := by omega
      have b3 : (0 : Int) ≤ (dd : Int) := by omega
      have b4 : (dd : Int) < ((MM + 1 : Nat) : Int) := by omega
      have b4' : (dd : Int) < (MM : Int) + 1 := by omega
      have wi : IntKind.i64.wrap ((k : Int) + 1) = ((k + 1 : Nat) : Int) := by rw [IntWalk.i64_in _ ⟨by omega, by omega⟩]; omega
      have b5 : (k : Int) < ((m + 1 : Nat) : Int) := by omega
      have b5' : (k : Int) < (m : Int) + 1 := by omega
      have HKLE := hid (show k ≤ m by omega)
      have HKL := hid hlt
      have HKK2 := hid hkk
      clear hkk wkk0 hkk' hdd hXk hYk hWk hEk PK PMK f1 f2 hM hM16
      go_wp2_with fail
      refine held_plain [0, 1, 2, 3, 4, 5, 6, 7, 8, 9, 10, 11, 12, 13, 14, 15, 16, 17] 0 (fun w' => w'.cell? ⟨g1, o1 + kk, none⟩ = some (.string Xk) ∧ w'.cell? ⟨g2, o2 + dd, none⟩ = some (.string Yk)) (by kernel_rfl) (by kernel_rfl) (by kernel_rfl) (by kernel_rfl) ⟨r1, r2⟩ ?_
      iterate 18
        refine ⟨_, rfl, ?_⟩
        apply Exists.intro
        refine ⟨.inl ⟨by rfl, ?_⟩, ?_⟩
        · (intro W' hW'; obtain ⟨q1, q2⟩ := hW'; go_simp; try (with_reducible rfl))
        (dsimp only [Act.put]; try simp only [List.setIfInBounds_toArray, List.set_cons_zero, List.set_cons_succ])
      refine wpAnyH_done (by kernel_rfl) ?_ _
      simp only [Only]
      go_wp2_with fail
      refine (PKV _ (HL.out.call yr.out.drew)).out.mono ?_; rintro e w5 ⟨rfl, hb5⟩
      have x5 := hid (show Below wr.heap.size wr w5 from (Below.refl _ _).drew.trans hb5)
      have O5 := hid (owns_call hO.out x5.out)
      have HB5 := hid (bnext hB.out x5.out)
      have y5 := hid (bnext y4.out HB5.out)
      clear hb5 r1 r2
      rcases cs with ⟨d1, d2, d3, rfl, d5⟩ | ⟨d1, d2 | ⟨d2, d3⟩ | ⟨d2, d3, d4⟩ | ⟨d2, d3, rfl, d5⟩⟩
      · have n1 := ne_lit (d := Xk) (l := []) d2
        have n2 := ne_lit (d := Yk) (l := []) d3
        have hws : Wk.size ≤ 3800 := by rw [d5, numB_size]; exact d1
        have q4 : decide ((3800 : Int) < (Wk.size : Int)) = false := by simp; omega
        have HD1 := hid d1; have HD5 := hid d5; have HWS := hid hws
        have hM16 := M16.out; have hkl := HKLE.out
        clear d1 d2 d3 d5 hws
        go_wp2_with (at_builtin; refine wpList_append_own _ rfl _ _ 36 rfl w4.heap.size 22 i0 (.string ⟨#[]⟩) 1 16 Tryz.underlying36 hi hz0 hz1 hz2 rfl (by decide) _ k _ rfl (O5.out.alloc _) ⟨w5.heap.size, 0, none⟩ 1 1 [.string Wk] rfl rfl (cell_one_new w5 (.string Wk) 22) (by simp [Value.oneCell']) (by unfold maxLen; omega) (by omega) (by have := HB5.out.size; simp; omega) ?_; intro v' w6 hown6 hgrow6 _)
        have hO6 := hid (show w6.ownsRow w4.heap.size 22 1 v' (k + 1) (strs (hfL NN DD m (k + 1))) by
          rw [HF.out, strs_append, ← HD5.out]; exact hown6)
        have hB6 : Hid (Below w4.heap.size w4 w6) := by
          refine (HB5.out.alloc HB5.out.size _).trans ⟨hgrow6.os, hgrow6.tape, hgrow6.output, hgrow6.size, fun k' hk' => hgrow6.block k' (by have := HB5.out.size; simp; omega) (fun e => ?_)⟩
          have := (O5.out.lt k' e.symm).1
          omega
        clear hown6 hgrow6
        go_wp2_with fail
        go_roundw
        case rel => exact ⟨k + 1, by go_num, by have := HKL.out; omega, fun j hj => by
          rcases Nat.lt_or_ge j k with h | h
          · exact hI.out j h
          · obtain rfl : j = k := by omega
            exact HD1.out, hO6, hB6⟩
        case measure => simp [intOf] <;> (have := HKL.out; omega)
      · subst d2
        have e5 := hid (HNOT.out k HKLE.out d1)
        have eW := hid (HW5.out e5.out)
        clear d1 
        go_wp2_with fail
        go_ret2
        exact ⟨⟨_, by rw [e5.out]; rfl, by rw [eW.out]; exact Row.nil _⟩, y5.out⟩
      · have n1 := ne_lit (d := Xk) (l := []) d2
        subst d3
        have e5 := hid (HNOT.out k HKLE.out d1)
        have eW := hid (HW5.out e5.out)
        clear d1 d2
        go_wp2_with fail
        go_ret2
        exact ⟨⟨_, by rw [e5.out]; rfl, by rw [eW.out]; exact Row.nil _⟩, y5.out⟩
      · have n1 := ne_lit (d := Xk) (l := []) d2
        have n2 := ne_lit (d := Yk) (l := []) d3
        have q3 : (Ek != 0) = true := by simpa using d4
        have e5 := hid (HNOT.out k HKLE.out d1)
        have eW := hid (HW5.out e5.out)
        clear d1 d2 d3 d4
        go_wp2_with fail
        go_ret2
        exact ⟨⟨_, by rw [e5.out]; rfl, by rw [eW.out]; exact Row.nil _⟩, y5.out⟩
      · have n1 := ne_lit (d := Xk) (l := []) d2
        have n2 := ne_lit (d := Yk) (l := []) d3
        have q4 : decide ((3800 : Int) < (Wk.size : Int)) = true := by simp; omega
        have e5 := hid (HNOT.out k HKLE.out d1)
        have eW := hid (HW5.out e5.out)
        clear d1 d2 d3 d5
        go_wp2_with fail
        go_ret2
        exact ⟨⟨_, by rw [e5.out]; rfl, by rw [eW.out]; exact Row.nil _⟩, y5.out⟩
    · obtain rfl : k = m + 1 := by omega
      have q1 : decide (((m + 1 : Nat) : Int) < ((m + 1 : Nat) : Int)) = false := by simp
      have q2 : decide ((m : Int) + 1 < (m : Int) + 1) = false := by simp
      have hE0 := HYES.out fun k hk => hI.out k (by omega)
      have hW0 := HW.out hE0
      have hrow := Row.of_owns hO.out
      have PMI := hid (b_mirrored wr _ _ hrow (by rw [HFL.out]; omega) (by rw [HFL.out]; have := M16.out; omega))
      rw [HFA.out, ← hW0] at PMI
      have HE0 := hid hE0
      clear hlt hk hE0 hW0 hrow
      go_wp2_with fail
      refine PMI.out.mono ?_; rintro e w5 ⟨⟨u5, rfl, hu5⟩, hb5⟩
      have y5 := hid (bnext yr.out hb5)
      have U5 := hid hu5
      obtain ⟨a6, c6, rfl, -, -, -⟩ := hu5.openS
      clear hb5 hu5
      go_wp2_with fail
      go_ret2
      exact ⟨⟨_, by rw [HE0.out]; rfl, U5.out⟩, y5.out⟩
end Go.Proofs.YtpheklgnmbpobaaGreatDoor
namespace Go.Proofs.YtpheklgnmbpobaaGreatDoor
open Go.RowKit Go.Shelf Go.Maps
open Go.Lib (decDigits nDigits)
set_option linter.unusedVariables false
set_option linter.unusedSimpArgs false
set_option maxRecDepth 100000 in
set_option maxHeartbeats 1000000 in
theorem p_Late (w : World) (v : Value) (l : List ByteArray) (n : Int) (hv : Row w v (strs l)) (hl : ∀ x ∈ l, x.size ≤ 1000000) (hL : Lay w) :
    Calls Tryz.prog 58 #[v, .int .i64 n] w fun e w' => e = .returned (.tuple #[.string (lateR l n), .int .i64 (lawE l n)]) ∧ Below w.heap.size w w' := by
  by_cases he : lawE l n = 0
  · obtain ⟨h1, h2, h3⟩ := lawE_ok he
    obtain ⟨m, rfl⟩ : ∃ m : Nat, n = (m : Nat) := ⟨n.toNat, by omega⟩
    have P := hid (p_law (H := Unit) w v l m hv hl h1 (by omega) hL)
    have er : lateR l (m : Nat) = shB (2 ^ m - lwS (l.map bN) (2 ^ m) l.length) (2 ^ m) := by rw [lateR, if_pos he, Int.toNat_natCast]
    rw [er, he]
    obtain ⟨ws, hws⟩ : ∃ ws, l.map bN = ws := ⟨_, rfl⟩
    obtain ⟨N, hN⟩ : ∃ N, l.length = N := ⟨_, rfl⟩
    rw [hws, hN] at P ⊢
    obtain ⟨a, c, rfl, -⟩ := hv.openS
    obtain ⟨k1, k2⟩ := lawP_late (ws := ws) (t := 2 ^ m) (N := N)
    have K1 := hid k1; have K2 := hid k2
    clear hv hl hL h1 h2 h3 er he hws hN k1 k2
    by_cases hz : 2 ^ m - lwS ws (2 ^ m) N = 0
    · rw [hz, shB_zero]
      go_enter Tryz.func58, Tryz.ntmps58
      go_wp2_with fail
      refine P.out.mono ?_; rintro e w1 ⟨⟨B, rfl, hown⟩, hb1⟩
      have y1 := hid hb1
      obtain ⟨c1, c2⟩ := lookok_run hown (reads_lawM ws (2 ^ m) N) lateB (by unfold maxLen; decide)
      have hrun := c2 (K2.out hz)
      unfold lateB at hrun
      clear c1 c2 hown hb1 hz
      go_wp2_with fail
      go_ret2
      exact ⟨rfl, y1.out⟩
    · obtain ⟨S, hS⟩ : ∃ S, shB (2 ^ m - lwS ws (2 ^ m) N) (2 ^ m) = S := ⟨_, rfl⟩
      have k3 := K1.out hz
      rw [hS] at k3 ⊢
      have K3 := hid k3
      clear k3 hS
      go_enter Tryz.func58, Tryz.ntmps58
      go_wp2_with fail
      refine P.out.mono ?_; rintro e w1 ⟨⟨B, rfl, hown⟩, hb1⟩
      have y1 := hid hb1
      obtain ⟨c1, c2⟩ := lookok_run hown (reads_lawM ws (2 ^ m) N) lateB (by unfold maxLen; decide)
      have hrun := c1 _ K3.out rfl
      unfold lateB at hrun
      dsimp only at hrun
      clear c1 c2 hown hb1 hz
      go_wp2_with fail
      go_ret2
      exact ⟨rfl, y1.out⟩
  · have P := hid (p_lawE w v l n hv hl he)
    have er : lateR l n = ⟨#[]⟩ := by rw [lateR, if_neg he]
    rw [er]
    obtain ⟨a, c, rfl, -⟩ := hv.openS
    obtain ⟨z, hz⟩ : ∃ z, lawE l n = z := ⟨_, rfl⟩
    rw [hz] at P he ⊢
    have q0 : (z != 0) = true := by simpa using he
    clear hv hl hL er he hz
    go_enter Tryz.func58, Tryz.ntmps58
    go_wp2_with fail
    refine P.out.mono ?_; rintro e w1 ⟨rfl, hb1⟩
    have y1 := hid hb1
    clear hb1
    go_wp2_with fail
    go_ret2
    exact ⟨rfl, y1.out⟩
end Go.Proofs.YtpheklgnmbpobaaGreatDoor
namespace Go.Proofs.YtpheklgnmbpobaaGreatDoor
open Go.RowKit Go.Shelf
open Go.Lib (decDigits nDigits)
set_option linter.unusedVariables false
set_option linter.unusedSimpArgs false
def hasM (L : List (ByteArray × ByteArray)) (x : ByteArray × ByteArray) : Bool := L.any (fun y => decide (y = x))
theorem hasM_iff {L : List (ByteArray × ByteArray)} {x : ByteArray × ByteArray} : hasM L x = true ↔ x ∈ L := by
  unfold hasM
  rw [List.any_eq_true]
  exact ⟨fun ⟨y, hy, e⟩ => by rw [decide_eq_true_eq] at e; exact e ▸ hy, fun h => ⟨x, h, by simp⟩⟩
set_option maxRecDepth 100000 in
set_option maxHeartbeats 2000000 in
theorem k_HasM (w : World) (v : Value) (L : List (ByteArray × ByteArray)) (x1 x2 : ByteArray) (hv : MRow w v L) :
    Calls Tryz.prog 15 #[v, .agg #[.string x1, .string x2]] w fun e w' => e = .returned (.bool (hasM L (x1, x2))) ∧ Below w.heap.size w w' := by
  obtain ⟨a, c, rfl, h1, h2, h3⟩ := hv.ex
  obtain ⟨n, hn⟩ : ∃ n, L.length = n := ⟨_, rfl⟩
  rw [hn] at h1 ⊢
  have H3 := hid h3; have HN := hid hn
  have X := hid (Blk.new w #[.string x1, .string x2] 31)
  have B := hid ((Below.refl w.heap.size w).alloc (Nat.le_refl _) (.cells #[.string x1, .string x2] 31))
  clear hv h3 hn
  go_enter Tryz.func15, Tryz.ntmps15
  go_wp2_with fail
  go_loopw [5] (fun ii wr => ∃ i : Nat, ii = .int .i64 (i : Nat) ∧ i ≤ n ∧ Hid (∀ j, j < i → L[j]? ≠ some (x1, x2)) ∧ Hid (Blk wr w.heap.size #[.string x1, .string x2] 31) ∧ Hid (Below w.heap.size w wr)) (fun ii wr => n - (intOf ii).toNat)
  case atStart => exact ⟨0, rfl, Nat.zero_le _, fun j hj => absurd hj (by omega), X, B⟩
  case round =>
    obtain ⟨i, rfl, hi, hI, hX, hB⟩ := hrel
    by_cases hlt : i < n
    · obtain ⟨y, hy⟩ : ∃ x, L[i]? = some x := ⟨_, List.getElem?_eq_getElem (by rw [HN.out]; exact hlt)⟩
      obtain ⟨g, o, rfl, hg, k1, k2⟩ := H3.out i y hy
      obtain ⟨y1, y2⟩ := y
      have HY := hid hy
      have m1 := (hB.out.cell (p := ⟨g, o + 2 * i, none⟩) hg).trans k1
      have m2 := (hB.out.cell (p := ⟨g, o + 2 * i + 1, none⟩) hg).trans k2
      have m3 := hX.out.cell 0
      have m4 := hX.out.cell 1
      simp at m3 m4
      dsimp only at m1 m2
      rw [Nat.mul_comm 2 i] at m1 m2
      have b1 : (0 : Int) ≤ (i : Int) := by omega
      have b2 : (i : Int) < (n : Int) := by omega
      have wi : IntKind.i64.wrap ((i : Int) + 1) = (i : Int) + 1 := by rw [IntWalk.i64_in _ ⟨by omega, by omega⟩]
      clear k1 k2 hy hg
      by_cases he : y1 = x1 ∧ y2 = x2
      · obtain ⟨rfl, rfl⟩ := he
        have hmem : (y1, y2) ∈ L := List.mem_of_getElem? HY.out
        have HM := hid hmem
        clear hmem
        go_wp2_with fail
        refine held_plain [0, 1, 2, 3, 4, 5] 0 (fun w' => w'.cell? ⟨g, o + i * 2, none⟩ = some (.string y1) ∧ w'.cell? ⟨g, o + i * 2 + 1, none⟩ = some (.string y2) ∧ w'.cell? ⟨w.heap.size, 0, none⟩ = some (.string y1) ∧ w'.cell? ⟨w.heap.size, 1, none⟩ = some (.string y2)) (by kernel_rfl) (by kernel_rfl) (by kernel_rfl) (by kernel_rfl) ⟨m1, m2, m3, m4⟩ ?_
        iterate 6
          refine ⟨_, rfl, ?_⟩
          apply Exists.intro
          refine ⟨.inl ⟨by rfl, ?_⟩, ?_⟩
          · (intro W' hW'; obtain ⟨q1, q2, q3, q4⟩ := hW'; go_simp; try (with_reducible rfl))
          (dsimp only [Act.put]; try simp only [List.setIfInBounds_toArray, List.set_cons_zero, List.set_cons_succ])
        refine wpAnyH_done (by kernel_rfl) ?_ _
        simp only [Only]
        go_wp2_with fail
        go_ret
        exact ⟨by rw [hasM_iff.2 HM.out]; rfl, hB.out.drew⟩
      · have hne : ¬ ((y1, y2) : ByteArray × ByteArray) = (x1, x2) := by simpa using he
        have HNE := hid hne
        have hb : (decide (y1 = x1) && decide (y2 = x2)) = false := by
          rw [Bool.and_eq_false_iff, decide_eq_false_iff_not, decide_eq_false_iff_not]
          by_cases h : y1 = x1
          · exact .inr fun h' => he ⟨h, h'⟩
          · exact .inl h
        have fin : Hid (∀ j, j < i + 1 → L[j]? ≠ some (x1, x2)) := fun j hj => by
          rcases Nat.lt_or_ge j i with h | h
          · exact hI.out j h
          · obtain rfl : j = i := by omega
            rw [HY.out]; exact fun e => HNE.out (Option.some.inj e)
        clear he hne hb
        by_cases h1 : y1 = x1
        · subst h1
          have n2 := ne_tl (show ¬ y2 = x2 from fun e => HNE.out (by rw [e]))
          go_wp2_with fail
          refine held_plain [0, 1, 2, 3, 4, 5] 0 (fun w' => w'.cell? ⟨g, o + i * 2, none⟩ = some (.string y1) ∧ w'.cell? ⟨g, o + i * 2 + 1, none⟩ = some (.string y2) ∧ w'.cell? ⟨w.heap.size, 0, none⟩ = some (.string y1) ∧ w'.cell? ⟨w.heap.size, 1, none⟩ = some (.string x2)) (by kernel_rfl) (by kernel_rfl) (by kernel_rfl) (by kernel_rfl) ⟨m1, m2, m3, m4⟩ ?_
          iterate 6
            refine ⟨_, rfl, ?_⟩
            apply Exists.intro
            refine ⟨.inl ⟨by rfl, ?_⟩, ?_⟩
            · (intro W' hW'; obtain ⟨q1, q2, q3, q4⟩ := hW'; go_simp; try (with_reducible rfl))
            (dsimp only [Act.put]; try simp only [List.setIfInBounds_toArray, List.set_cons_zero, List.set_cons_succ])
          refine wpAnyH_done (by kernel_rfl) ?_ _
          simp only [Only]
          go_wp2_with fail
          go_roundw
          case rel => exact ⟨i + 1, rfl, by omega, fin, hX.out.drew, hB.out.drew⟩
          case measure => simp [intOf] <;> omega
        · have n1 := ne_tl h1
          clear h1
          go_wp2_with fail
          refine held_plain [0, 1, 2, 3, 4, 5] 0 (fun w' => w'.cell? ⟨g, o + i * 2, none⟩ = some (.string y1) ∧ w'.cell? ⟨g, o + i * 2 + 1, none⟩ = some (.string y2) ∧ w'.cell? ⟨w.heap.size, 0, none⟩ = some (.string x1) ∧ w'.cell? ⟨w.heap.size, 1, none⟩ = some (.string x2)) (by kernel_rfl) (by kernel_rfl) (by kernel_rfl) (by kernel_rfl) ⟨m1, m2, m3, m4⟩ ?_
          iterate 6
            refine ⟨_, rfl, ?_⟩
            apply Exists.intro
            refine ⟨.inl ⟨by rfl, ?_⟩, ?_⟩
            · (intro W' hW'; obtain ⟨q1, q2, q3, q4⟩ := hW'; go_simp; try (with_reducible rfl))
            (dsimp only [Act.put]; try simp only [List.setIfInBounds_toArray, List.set_cons_zero, List.set_cons_succ])
          refine wpAnyH_done (by kernel_rfl) ?_ _
          simp only [Only]
          go_wp2_with fail
          go_roundw
          case rel => exact ⟨i + 1, rfl, by omega, fin, hX.out.drew, hB.out.drew⟩
          case measure => simp [intOf] <;> omega
    · obtain rfl : i = n := by omega
      have hE : hasM L (x1, x2) = false := by
        rw [Bool.eq_false_iff]
        intro hm
        rw [hasM_iff] at hm
        obtain ⟨j, hj⟩ := List.getElem?_of_mem hm
        exact hI.out j (by have := (List.getElem?_eq_some_iff.1 hj).1; rw [HN.out] at this; exact this) hj
      have HE := hid hE
      have q1 : decide ((i : Int) < (i : Int)) = false := by simp
      clear hlt hE
      go_wp2_with fail
      go_ret
      exact ⟨by rw [HE.out]; rfl, hB.out⟩
end Go.Proofs.YtpheklgnmbpobaaGreatDoor
namespace Go.Proofs.YtpheklgnmbpobaaGreatDoor
open Go.RowKit
open Go.Lib (decDigits nDigits)
set_option linter.unusedVariables false
theorem make_bytes (n : Nat) (hn : n ≤ 100000000) (W : World) : (Instr.makeSlice 133 (.int .i64 (n : Int)) (.int .i64 (n : Int))).run Tryz.prog W = .ok (.slice (some ⟨W.heap.size, 0, none⟩) n n) (W.alloc (.cells (madeCells #[.int .u8 0] n) 5)) :=
  run_make_row' (P := Tryz.prog) 133 5 (.int .u8 0) 1 Tryz.underlying133 (by kernel_rfl) rfl .i64 .i64 n (by omega) (by omega) W
theorem r1_Write_zero (w : World) (v : Value) (h : IsN .i64 w v 0) : Calls Tryz.prog 47 #[v] w fun e w' => e = .returned (numV 0) ∧ Below w.heap.size w w' := by
  obtain ⟨a, c, rfl, _⟩ := h.openI
  have hl : (limbs 0).length = 0 := by rw [limbs_zero]; rfl
  rw [hl]
  have e : numV 0 = .string ⟨#[48]⟩ := by rw [numV, dec_zero]
  have E := hid e
  clear h hl e
  go_enter Tryz.func47, Tryz.ntmps47
  go_wp2_with fail
  go_ret
  exact ⟨by rw [E.out]; rfl, Below.refl _ _⟩
set_option maxRecDepth 100000 in
set_option maxHeartbeats 1000000 in
theorem r1_Write_pos (w : World) (v : Value) (n : Nat) (h : IsN .i64 w v n) (h0 : 0 < n) (hl : (limbs n).length ≤ 1000000) : Calls Tryz.prog 47 #[v] w fun e w' => e = .returned (numV n) ∧ Below w.heap.size w w' := by
  obtain ⟨a, c, rfl, h1, h2, h3⟩ := h.openI
  have H3 := hid h3; clear h3 h
  obtain ⟨L, hL⟩ : ∃ L, (limbs n).length = L := ⟨_, rfl⟩
  have hLp : 0 < L := by rw [← hL]; exact List.length_pos_iff.2 (fun e => by have := limbs_nil.1 e; omega)
  rw [hL] at h1 hl ⊢
  have HL := hid hL; clear hL
  have q0 : ((L : Int) == 0) = false := by simp; omega
  have hmk : ∀ W : World, (Instr.makeSlice 133 (.int .i64 (9 * (L : Int))) (.int .i64 (9 * (L : Int)))).run Tryz.prog W = .ok (.slice (some ⟨W.heap.size, 0, none⟩) (9 * L) (9 * L)) (W.alloc (.cells (madeCells #[.int .u8 0] (9 * L)) 5)) := fun W => by
    have := make_bytes (9 * L) (by omega) W
    rwa [Int.natCast_mul] at this
  go_enter Tryz.func47, Tryz.ntmps47
  go_wp2_with fail
  clear hmk q0
  go_loopw [4, 5, 6] (fun ii nn kk wr => ∃ (i : Nat) (bs : List UInt8), ii = .int .i64 i ∧ i ≤ L ∧ Hid (WrI n i bs) ∧ Hid (BArr 5 wr w.heap.size bs) ∧ Hid (Below w.heap.size w wr)) (fun ii _ _ _ => L - (intOf ii).toNat)
  case atStart => exact ⟨0, _, rfl, Nat.zero_le _, WrI.start n, by rw [HL.out]; exact BArr.made w 5 (9 * L), (Below.refl _ _).alloc (Nat.le_refl _) _⟩
  case round =>
    obtain ⟨i, bs, rfl, hi, hW, hO, hB⟩ := hrel
    by_cases hlt : i < L
    · obtain ⟨x, hx⟩ : ∃ x, (limbs n)[L - 1 - i]? = some x := ⟨_, List.getElem?_eq_getElem (by rw [HL.out]; omega)⟩
      obtain ⟨g, o, rfl, hg, hc⟩ := H3.out _ x hx
      have d1 := (hB.out.cell (p := ⟨g, o + (L - 1 - i), none⟩) hg).trans hc
      have hxl := (sm_limbs n).get hx
      have HX := hid hx; clear hx hc
      go_wp2_with fail
      go_loopw [5, 6] (fun nn kk wq => ∃ (k y : Nat) (t : Int) (bs : List UInt8), nn = .int .i64 y ∧ kk = .int .i64 t ∧ t = (k : Int) - 1 ∧ k ≤ 9 ∧ y < 1000000000 ∧ Hid (WrJ n i x k y bs) ∧ Hid (BArr 5 wq w.heap.size bs) ∧ Hid (Below w.heap.size w wq)) (fun _ kk _ => (intOf kk + 1).toNat)
      case atStart => exact ⟨9, x, _, bs, rfl, rfl, by omega, by omega, hxl, hW.out.enter, hO, hB⟩
      case round =>
        obtain ⟨k, y, t, bs2, rfl, rfl, ht, hk, hy, hJ, hO2, hB2⟩ := hrel
        have hbl := hid (show bs2.length = 9 * L from by rw [hJ.out.len, HL.out])
        cases k with
        | zero =>
          obtain rfl : t = -1 := by omega
          clear ht
          have HN := hid (hJ.out.leave (by rw [HL.out]; exact HX.out) (by rw [HL.out]; exact hlt))
          go_wp2_with fail
          go_roundw
          case rel => exact ⟨i + 1, bs2, by go_num, by omega, HN, hO2, hB2⟩
          case measure => simp [intOf] <;> omega
        | succ k =>
          obtain rfl : t = (k : Int) := by omega
          clear ht
          have HN := hid (hJ.out.next (by omega) (by rw [HL.out]; exact hlt))
          obtain ⟨z, hz⟩ : ∃ z, bs2[9 * i + k]? = some z := ⟨_, List.getElem?_eq_getElem (by rw [hbl.out]; omega)⟩
          have d3 := hO2.out.cell hz
          have d4 := hO2.out.free (9 * i + k)
          clear hz
          go_wp2_with fail
          go_roundw
          case rel =>
            refine ⟨k, y / 10, _, bs2.set (9 * i + k) (UInt8.ofNat (48 + y % 10)), by go_num, rfl, by omega, by omega, by omega, HN, ?_, below_set hB2.out (Nat.le_refl _) _⟩
            have hz : (48 + (y : Int) % 10) = ((UInt8.ofNat (48 + y % 10)).toNat : Int) := by rw [digit_ofNat (by omega)]; omega
            rw [hz]
            exact hO2.out.set _ _
          case measure => simp [intOf] <;> omega
    · obtain rfl : i = L := by omega
      obtain ⟨hdig, hval⟩ := WrI.done (by have := hW.out; rw [← HL.out] at this; exact this)
      have HD := hid hdig; have HV := hid hval
      have hbl := hid (show bs.length = 9 * i from by rw [hW.out.len, HL.out])
      clear hdig hval
      go_wp2_with fail
      go_loop [3] (fun b => ∃ r : Nat, r + 1 ≤ 9 * i ∧ b = .slice (some ⟨w.heap.size, r, none⟩) (9 * i - r) (9 * i - r) ∧ Hid (dv (bs.drop r) = n)) (fun b => match b with | .slice _ m _ => m | _ => 0)
      case atStart => exact ⟨0, by omega, rfl, by rw [Hid, List.drop_zero]; exact HV.out⟩
      case round =>
        obtain ⟨r, hr, rfl, hv⟩ := hrel
        obtain ⟨z, hz⟩ : ∃ z, bs[r]? = some z := ⟨_, List.getElem?_eq_getElem (by rw [hbl.out]; omega)⟩
        have d3 := hO.out.cell hz
        obtain ⟨m, hm⟩ : ∃ m, m = 9 * i - r := ⟨_, rfl⟩
        rw [← hm]
        have hm1 : 1 ≤ m := by omega
        have hm9 : m ≤ 9000000 := by omega
        have HM := hid hm
        by_cases hgo : 1 < m ∧ z = 48
        · obtain ⟨g1, rfl⟩ := hgo
          have q1 : decide ((1 : Int) < (m : Int)) = true := by simp; omega
          have HN := hid (dv_zero_head hz)
          clear hz hm
          go_wp2_with fail
          go_round
          case rel => exact ⟨r + 1, by have := HM.out; omega, by rw [show 9 * i - (r + 1) = m - 1 by have := HM.out; omega], by rw [Hid, HN.out]; exact hv.out⟩
          case measure => simp; omega
        · have hfin := hid (strip_done HD.out hv.out (by rw [hbl.out]; omega) (by
            rw [hbl.out]
            by_cases h1 : 1 < m
            · right
              rw [hz]
              intro e
              injection e with e
              exact hgo ⟨h1, e⟩
            · left; omega))
          have hcv : (convert 133 9 (.slice (some ⟨w.heap.size, r, none⟩) m m)).run Tryz.prog wr = .ok (numV n) wr := by
            have hlen : (bs.drop r).length = m := by rw [List.length_drop, hbl.out, hm]
            have := Go.run_convert_bytes_back (P := Tryz.prog) wr 133 9 5 ⟨w.heap.size, r, none⟩ m (bs.drop r) Tryz.underlying133 Tryz.underlying5 Tryz.underlying9 (fun j hj => by
              rw [Addr.add_lit]
              refine hO.out.cell ?_
              have h2 : r + j < bs.length := by rw [hlen] at hj; rw [hbl.out]; omega
              rw [List.getElem?_eq_getElem h2, List.getElem_drop])
            rw [hlen, hfin.out] at this
            exact this
          by_cases h1 : 1 < m
          · have q1 : decide ((1 : Int) < (m : Int)) = true := by simp; omega
            have q2 : ((z.toNat : Int) == 48) = false := by
              rw [beq_eq_false_iff_ne]
              intro e
              refine hgo ⟨h1, ?_⟩
              have : z.toNat = (48 : UInt8).toNat := by simp; omega
              exact UInt8.toNat_inj.1 this
            clear hz hm hgo h1
            go_wp2_with fail
            go_ret
            exact ⟨rfl, hB.out⟩
          · obtain rfl : m = 1 := by omega
            clear hz hm hgo h1
            go_wp2_with fail
            go_ret
            exact ⟨rfl, hB.out⟩
end Go.Proofs.YtpheklgnmbpobaaGreatDoor
namespace Go.Proofs.YtpheklgnmbpobaaGreatDoor
open Go.RowKit
open Go.Lib (decDigits nDigits)
set_option linter.unusedVariables false
set_option maxRecDepth 100000 in
set_option maxHeartbeats 1000000 in
theorem r1_Check (w : World) (s : ByteArray) (hs : s.size ≤ 9223372036854775807) : Calls Tryz.prog 115 #[.string s] w fun e w' => e = .returned (.int .i64 (errN s.data.toList)) ∧ w = w' := by
  have hsl := hid (show s.data.toList.length = s.size from by simp)
  by_cases h0 : s.size = 0
  · have hnil : s.data.toList = [] := List.eq_nil_of_length_eq_zero (by rw [hsl.out, h0])
    obtain rfl : s = ⟨#[]⟩ := by
      cases s with
      | mk d => simp at hnil; rw [hnil]
    clear hsl h0 hnil hs
    go_enter Tryz.func115, Tryz.ntmps115
    go_wp2_with fail
    go_ret
    exact ⟨ret_int (by rw [errN_bad]; exact fun h => h.1 rfl), rfl⟩
  · have hpos : 0 < s.size := by omega
    have hne : s.data.toList.isEmpty = false := by
      rw [List.isEmpty_eq_false_iff]
      intro e
      have := hsl.out; rw [e] at this; simp at this; omega
    have hn : ¬ s.toList = [] := by rw [Go.ByteArray.toList_eq]; intro e; rw [e] at hne; cases hne
    have hn2 : s.toList.isEmpty = false := by rw [Go.ByteArray.toList_eq]; exact hne
    have hb0 := hid (byte_get hpos)
    clear hne
    by_cases hz : s[0] = 48 ∧ 1 < s.size
    · have q1 : ((s[0].toNat : Int) == 48) = true := by rw [hz.1]; rfl
      have q2 : decide ((1 : Int) < (s.size : Int)) = true := by simp; omega
      have hbad := hid (show ¬ isForm s.data.toList from fun h => by
        rcases h.2.1 with h1 | h1
        · have := congrArg List.length h1
          rw [hsl.out] at this; simp at this; omega
        · rw [List.head?_eq_getElem?, hb0.out, hz.1] at h1
          exact h1 rfl)
      clear hz
      go_enter Tryz.func115, Tryz.ntmps115
      go_wp2_with fail
      go_ret
      exact ⟨ret_int (by rw [errN_bad hbad.out]), rfl⟩
    · have hform : allDig s.data.toList → isForm s.data.toList := fun hd => by
        refine ⟨fun e => by have := hsl.out; rw [e] at this; simp at this; omega, ?_, hd⟩
        by_cases h48 : s[0] = 48
        · left
          have h1 : s.data.toList.length = 1 := by
            have : ¬ 1 < s.size := fun h => hz ⟨h48, h⟩
            rw [hsl.out]; omega
          match hm : s.data.toList, h1 with
          | [c], _ =>
            have := hb0.out
            rw [hm] at this
            simp at this
            rw [this, h48]
        · right
          rw [List.head?_eq_getElem?, hb0.out]
          simpa using h48
      have HF := hid hform
      have hI : (((s[0].toNat : Int) == 48) = false ∧ decide ((1 : Int) < (s.size : Int)) = decide ((1 : Int) < (s.size : Int))) ∨ (((s[0].toNat : Int) == 48) = true ∧ decide ((1 : Int) < (s.size : Int)) = false) := by
        by_cases h48 : s[0] = 48
        · right
          have : ¬ 1 < s.size := fun h => hz ⟨h48, h⟩
          refine ⟨by rw [h48]; rfl, by simp; omega⟩
        · left
          refine ⟨?_, rfl⟩
          rw [beq_eq_false_iff_ne]
          intro e
          refine h48 ?_
          have : s[0].toNat = (48 : UInt8).toNat := by simp; omega
          exact UInt8.toNat_inj.1 this
      clear hform hz
      rcases hI with ⟨q1, -⟩ | ⟨q1, q2⟩
      all_goals
        go_enter Tryz.func115, Tryz.ntmps115
        go_wp2_with fail
        clear q1
        go_loop [3] (fun ii => ∃ i : Nat, ii = .int .i64 i ∧ i ≤ s.size ∧ Hid (∀ (j : Nat) (b : UInt8), j < i → s.data.toList[j]? = some b → isDig b = true)) (fun ii => s.size - (intOf ii).toNat)
        case atStart => exact ⟨0, rfl, Nat.zero_le _, fun j b hj => absurd hj (by omega)⟩
        case round =>
          obtain ⟨i, rfl, hi, hI⟩ := hrel
          by_cases hlt : i < s.size
          · have hb := hid (byte_get hlt)
            have hbad : ¬ isDig s[i] = true → ¬ isForm s.data.toList := fun h hf => h (hf.2.2 _ (List.mem_of_getElem? hb.out))
            by_cases c1 : s[i].toNat < 48
            · have q1 : decide ((s[i].toNat : Int) < 48) = true := by simp; omega
              have hB := hid (hbad (fun e => by have := isDig_iff.1 e; omega))
              clear hbad c1
              go_wp2_with fail
              go_ret
              exact ⟨ret_int (by rw [errN_bad hB.out]), rfl⟩
            · by_cases c2 : 57 < s[i].toNat
              · have q1 : decide ((s[i].toNat : Int) < 48) = false := by simp; omega
                have q2 : decide ((57 : Int) < (s[i].toNat : Int)) = true := by simp; omega
                have hB := hid (hbad (fun e => by have := isDig_iff.1 e; omega))
                clear hbad c1 c2
                go_wp2_with fail
                go_ret
                exact ⟨ret_int (by rw [errN_bad hB.out]), rfl⟩
              · have q1 : decide ((s[i].toNat : Int) < 48) = false := by simp; omega
                have q2 : decide ((57 : Int) < (s[i].toNat : Int)) = false := by simp; omega
                have hD := hid (isDig_iff.2 (show 48 ≤ s[i].toNat ∧ s[i].toNat ≤ 57 by omega))
                clear hbad c1 c2
                go_wp2_with fail
                go_round
                case rel => exact ⟨i + 1, by go_num, by omega, fun j b hj hjb => by
                  by_cases e : j = i
                  · subst e; have := hb.out; rw [hjb] at this; cases this; exact hD.out
                  · exact hI.out j b (by omega) hjb⟩
                case measure => simp [intOf] <;> omega
          · obtain rfl : i = s.size := by omega
            have hF := hid (HF.out fun b hb => by
              obtain ⟨j, hj⟩ := List.getElem?_of_mem hb
              exact hI.out j b (by have := (List.getElem?_eq_some_iff.1 hj).1; rw [hsl.out] at this; exact this) hj)
            by_cases hlong : 4000 < s.size
            · have q3 : decide ((4000 : Int) < (s.size : Int)) = true := by simp; omega
              have HL := hid hlong; clear hlong
              go_wp2_with fail
              go_ret
              exact ⟨ret_int (by rw [errN_long hF.out (by rw [hsl.out]; exact HL.out)]), rfl⟩
            · have q3 : decide ((4000 : Int) < (s.size : Int)) = false := by simp; omega
              have HL := hid hlong; clear hlong
              go_wp2_with fail
              go_ret
              exact ⟨ret_int (by rw [errN_ok hF.out (by rw [hsl.out]; exact HL.out)]), rfl⟩
end Go.Proofs.YtpheklgnmbpobaaGreatDoor
namespace Go.Proofs.YtpheklgnmbpobaaGreatDoor
open Go.RowKit
set_option linter.unusedVariables false
theorem r2_digits (w : World) (s : ByteArray) (hs : s.size ≤ 9223372036854775807) : Calls Tryz.prog 108 #[.string s] w fun e w' =>
    e = .returned (.bool (formB s.data.toList)) ∧ w = w' := by
  by_cases hf : formB s.data.toList = true
  · by_cases hl : 4000 < s.data.toList.length
    · have H5 := hid (show errN s.data.toList = 5 from by rw [errN, if_pos hf, if_pos hl])
      have HF := hid hf
      rw [hf]
      clear hf hl
      go_enter Tryz.func108, Tryz.ntmps108
      go_wp2_with fail
      refine (r1_Check _ s hs).mono ?_; rintro e w1 ⟨rfl, rfl⟩
      rw [H5.out]
      go_wp2_with fail
      go_ret
      exact ⟨rfl, rfl⟩
    · have H5 := hid (show errN s.data.toList = 0 from by rw [errN, if_pos hf, if_neg hl])
      have HF := hid hf
      rw [hf]
      clear hf hl
      go_enter Tryz.func108, Tryz.ntmps108
      go_wp2_with fail
      refine (r1_Check _ s hs).mono ?_; rintro e w1 ⟨rfl, rfl⟩
      rw [H5.out]
      go_wp2_with fail
      go_ret
      exact ⟨rfl, rfl⟩
  · have H5 := hid (show errN s.data.toList = 3 from by rw [errN, if_neg hf])
    have hf' : formB s.data.toList = false := by simpa using hf
    rw [hf']
    clear hf hf'
    go_enter Tryz.func108, Tryz.ntmps108
    go_wp2_with fail
    refine (r1_Check _ s hs).mono ?_; rintro e w1 ⟨rfl, rfl⟩
    rw [H5.out]
    go_wp2_with fail
    go_ret
    exact ⟨rfl, rfl⟩
end Go.Proofs.YtpheklgnmbpobaaGreatDoor
namespace Go.Proofs.YtpheklgnmbpobaaGreatDoor
open Go.RowKit
set_option linter.unusedVariables false
def isSlash (l : List UInt8) (k : Nat) : Prop := k ≤ l.length ∧ (∀ (j : Nat) (b : UInt8), j < k → l[j]? = some b → b ≠ 47) ∧ (k < l.length → l[k]? = some 47)
theorem r2_slash (w : World) (s : ByteArray) (hs : s.size ≤ 9223372036854775807) : Calls Tryz.prog 106 #[.string s] w fun e w' =>
    (∃ k : Nat, e = .returned (.int .i64 k) ∧ isSlash s.data.toList k) ∧ w = w' := by
  have hsl := hid (show s.data.toList.length = s.size from by simp)
  go_enter Tryz.func106, Tryz.ntmps106
  go_wp2_with fail
  go_loop [3] (fun ii => ∃ i : Nat, ii = .int .i64 i ∧ i ≤ s.size ∧ Hid (∀ (j : Nat) (b : UInt8), j < i → s.data.toList[j]? = some b → b ≠ 47)) (fun ii => s.size - (intOf ii).toNat)
  case atStart => exact ⟨0, rfl, Nat.zero_le _, fun j b hj => absurd hj (by omega)⟩
  case round =>
    obtain ⟨i, rfl, hi, hI⟩ := hrel
    by_cases hlt : i < s.size
    · have hb := hid (byte_get hlt)
      by_cases c1 : s[i] = 47
      · have q1 : ((s[i].toNat : Int) == 47) = true := by rw [c1]; rfl
        have hB := hid c1
        clear c1
        go_wp2_with fail
        go_ret
        exact ⟨⟨i, rfl, by rw [hsl.out]; omega, hI.out, fun _ => by rw [hb.out, hB.out]⟩, rfl⟩
      · have q1 : ((s[i].toNat : Int) == 47) = false := by
          rw [beq_eq_false_iff_ne]
          intro e
          refine c1 ?_
          have : s[i].toNat = (47 : UInt8).toNat := by simp; omega
          exact UInt8.toNat_inj.1 this
        have hB := hid c1
        clear c1
        go_wp2_with fail
        go_round
        case rel => exact ⟨i + 1, by go_num, by omega, fun j b hj hjb => by
          by_cases e : j = i
          · subst e; rw [hb.out] at hjb; cases hjb; exact hB.out
          · exact hI.out j b (by omega) hjb⟩
        case measure => simp [intOf] <;> omega
    · have e1 : i = s.size := by omega
      subst e1
      go_wp2_with fail
      go_ret
      exact ⟨⟨s.size, rfl, by rw [hsl.out]; omega, hI.out, fun h => by rw [hsl.out] at h; omega⟩, rfl⟩
end Go.Proofs.YtpheklgnmbpobaaGreatDoor
namespace Go.Proofs.YtpheklgnmbpobaaGreatDoor
open Go.RowKit
set_option linter.unusedVariables false
theorem r2_integer_minus (w : World) (s : ByteArray) (hs : s.size ≤ 9223372036854775807) (h0 : 0 < s.size) (h1 : s[0] = 45) : Calls Tryz.prog 107 #[.string s] w fun e w' =>
    e = .returned (.tuple #[.bool true, .string (s.extract 1 s.size), .bool (formB (s.extract 1 s.size).data.toList && !decide ((s.extract 1 s.size).data.toList = [48]))]) ∧ w = w' := by
  have q0 : decide ((0 : Int) < (s.size : Int)) = true := by simp; omega
  have q1 : ((s[0].toNat : Int) == 45) = true := by rw [h1]; rfl
  have H0 := hid h1
  clear h1
  have hts : (s.extract 1 s.size).size ≤ 9223372036854775807 := by simp; omega
  obtain ⟨t, ht⟩ : ∃ t, s.extract 1 s.size = t := ⟨_, rfl⟩
  rw [ht] at hts ⊢
  have HT := hid ht
  obtain ⟨f, hf⟩ : ∃ f, formB t.data.toList = f := ⟨_, rfl⟩
  rw [hf]
  have HF := hid hf
  clear ht hf
  go_enter Tryz.func107, Tryz.ntmps107
  go_wp2_with fail
  rw [HT.out]
  refine (r2_digits _ t hts).mono ?_; rintro e w1 ⟨rfl, rfl⟩
  rw [HF.out]
  cases f
  · go_wp2_with fail
    exact bodyPost_ret (v := .tuple #[.bool true, .string t, .bool false]) (by simp [results, Tryz.results107, go_sem]) rfl ⟨by simp, rfl⟩
  · go_wp2_with fail
    refine bodyPost_ret (v := .tuple #[.bool true, .string t, .bool (!(t.toList == [48]))]) (by simp [results, Tryz.results107, go_sem]) rfl ⟨?_, rfl⟩
    rw [Go.ByteArray.toList_eq]
    simp
    exact Bool.eq_iff_iff.2 (by simp)
theorem r2_integer_plain (w : World) (s : ByteArray) (hs : s.size ≤ 9223372036854775807) (h1 : ∀ h : 0 < s.size, s[0] ≠ 45) : Calls Tryz.prog 107 #[.string s] w fun e w' =>
    e = .returned (.tuple #[.bool false, .string s, .bool (formB s.data.toList)]) ∧ w = w' := by
  obtain ⟨f, hf⟩ : ∃ f, formB s.data.toList = f := ⟨_, rfl⟩
  rw [hf]
  have HF := hid hf
  clear hf
  by_cases h0 : 0 < s.size
  · have q0 : decide ((0 : Int) < (s.size : Int)) = true := by simp; omega
    have q1 : ((s[0].toNat : Int) == 45) = false := by
      rw [beq_eq_false_iff_ne]
      intro e
      refine h1 h0 ?_
      have : s[0].toNat = (45 : UInt8).toNat := by simp; omega
      exact UInt8.toNat_inj.1 this
    clear h1
    go_enter Tryz.func107, Tryz.ntmps107
    go_wp2_with fail
    refine (r2_digits _ s hs).mono ?_; rintro e w1 ⟨rfl, rfl⟩
    rw [HF.out]
    cases f
    all_goals
      go_wp2_with fail
      exact bodyPost_ret (v := .tuple #[.bool false, .string s, .bool _]) (by simp [results, Tryz.results107, go_sem]) rfl ⟨rfl, rfl⟩
  · obtain rfl : s = ⟨#[]⟩ := by
      apply ByteArray.ext
      exact Array.eq_empty_of_size_eq_zero (by have : s.data.size = s.size := rfl; omega)
    clear h1 h0 hs
    go_enter Tryz.func107, Tryz.ntmps107
    go_wp2_with fail
    refine (r2_digits _ ⟨#[]⟩ (Nat.zero_le _)).mono ?_; rintro e w1 ⟨rfl, rfl⟩
    rw [HF.out]
    cases f
    all_goals
      go_wp2_with fail
      exact bodyPost_ret (v := .tuple #[.bool false, .string ⟨#[]⟩, .bool _]) (by simp [results, Tryz.results107, go_sem]) rfl ⟨rfl, rfl⟩
end Go.Proofs.YtpheklgnmbpobaaGreatDoor
namespace Go.Proofs.YtpheklgnmbpobaaGreatDoor
open Go.RowKit
open Go.Lib (decDigits nDigits)
set_option linter.unusedVariables false
theorem ba_list_iff {a b : ByteArray} : a.data.toList = b.data.toList ↔ a = b := ⟨ba_ext, fun e => by rw [e]⟩
theorem r2_integer (w : World) (s : ByteArray) (hs : s.size ≤ 9223372036854775807) : Calls Tryz.prog 107 #[.string s] w fun e w' =>
    e = .returned (.tuple #[.bool (iM s), .string (iD s), .bool (iB s)]) ∧ w = w' := by
  have hl : s.data.toList.length = s.size := by simp
  by_cases h : ∃ h0 : 0 < s.size, s[0] = 45
  · obtain ⟨h0, h1⟩ := h
    have hg := byte_get h0
    rw [h1] at hg
    obtain ⟨t, ht⟩ : ∃ t, s.data.toList = 45 :: t := by
      cases hc : s.data.toList with
      | nil => rw [hc] at hg; simp at hg
      | cons b t => rw [hc] at hg; simp at hg; exact ⟨t, by rw [hg]⟩
    have hM : iM s = true := by unfold iM Lib.hasPrefix; rw [ht]; simp [List.isPrefixOf]
    have hD : iD s = s.extract 1 s.size := by
      apply ba_ext
      rw [extract_list, ht]
      unfold iD Lib.trimPrefix
      rw [show Lib.hasPrefix s.data.toList [45] = true from hM, ht]
      have : s.size = t.length + 1 := by rw [← hl, ht]; simp
      simp [this]
    have H := r2_integer_minus w s hs h0 h1
    rw [← hD] at H
    have e : iB s = (formB (iD s).data.toList && !decide ((iD s).data.toList = [48])) := by
      unfold iB fB
      rw [hM, Bool.true_and]
      have : decide (iD s = ⟨#[48]⟩) = decide ((iD s).data.toList = [48]) := decide_eq_decide.2 (by rw [← ba_list_iff])
      rw [this]
    rw [hM, e]
    exact H
  · have h1 : ∀ h : 0 < s.size, s[0] ≠ 45 := fun h0 e => h ⟨h0, e⟩
    have hM : iM s = false := by
      unfold iM Lib.hasPrefix
      cases hc : s.data.toList with
      | nil => rfl
      | cons b t =>
        have h0 : 0 < s.size := by rw [← hl, hc]; simp
        have hg := byte_get h0
        rw [hc] at hg
        simp at hg
        have h3 : ((45 : UInt8) == b) = false := by rw [beq_eq_false_iff_ne, hg]; exact fun e => h1 h0 e.symm
        simp [List.isPrefixOf, h3]
    have hD : iD s = s := by
      apply ba_ext
      unfold iD Lib.trimPrefix
      rw [show Lib.hasPrefix s.data.toList [45] = false from hM]
      simp
    have H := r2_integer_plain w s hs h1
    have e : iB s = formB s.data.toList := by unfold iB fB; rw [hM, hD]; simp
    rw [hM, hD, e]
    exact H
theorem slash_cut {s : ByteArray} {k : Nat} (h : isSlash s.data.toList k) : k ≤ s.size ∧ cW s = s.extract 0 k ∧ cS s = decide (k < s.size) ∧ (k < s.size → cB s = s.extract (k + 1) s.size) := by
  obtain ⟨h1, h2, h3⟩ := h
  have hl : s.data.toList.length = s.size := by simp
  rcases sl_cases s.data.toList with hn | ⟨A, B, hA, e⟩
  · have hk : k = s.size := by
      rcases Nat.lt_or_ge k s.data.toList.length with hlt | hge
      · exact absurd rfl (hn 47 (List.mem_of_getElem? (h3 hlt)))
      · omega
    have hc := cut_none hn
    subst hk
    refine ⟨Nat.le_refl _, ?_, ?_, fun h => absurd h (Nat.lt_irrefl _)⟩
    · apply ba_ext; rw [extract_list]; unfold cW; rw [hc, List.drop_zero, Nat.sub_zero, ← hl, List.take_length]
    · unfold cS; rw [hc]; simp
  · have hL : s.data.toList.length = A.length + 1 + B.length := by rw [e]; simp; omega
    have hk : k = A.length := by
      rcases Nat.lt_trichotomy k A.length with hlt | heq | hgt
      · have := h3 (by omega)
        rw [e, List.getElem?_append_left hlt] at this
        exact absurd rfl (hA 47 (List.mem_of_getElem? this))
      · exact heq
      · exact absurd rfl (h2 A.length 47 hgt (by rw [e]; simp))
    have hc := cut_at (r := B) hA
    rw [← e] at hc
    subst hk
    refine ⟨by omega, ?_, ?_, fun _ => ?_⟩
    · apply ba_ext; rw [extract_list, e]; unfold cW; rw [hc]; simp
    · unfold cS; rw [hc]; simp; omega
    · apply ba_ext; rw [extract_list]; unfold cB; rw [hc]
      have : s.size - (A.length + 1) = B.length := by omega
      rw [this, e, show A ++ 47 :: B = (A ++ [47]) ++ B by simp, List.drop_left' (by simp), List.take_length]
end Go.Proofs.YtpheklgnmbpobaaGreatDoor
namespace Go.Proofs.YtpheklgnmbpobaaGreatDoor
open Go.RowKit
set_option linter.unusedVariables false
set_option maxHeartbeats 2000000 in
theorem r1_Order (w : World) (v u : Value) (a b : Nat) (ha : IsN .i64 w v a) (hb : IsN .i64 w u b) :
    Calls Tryz.prog 61 #[v, u] w fun e w' => e = .returned (.int .i64 (ordN a b)) ∧ Below w.heap.size w w' := by
  obtain ⟨a1, c1, rfl, h1, h2, h3⟩ := ha.openI
  obtain ⟨a2, c2, rfl, k1, k2, k3⟩ := hb.openI
  have H3 := hid h3; have K3 := hid k3; clear h3 k3 ha hb
  by_cases hne : (limbs a).length = (limbs b).length
  · obtain ⟨n, ea⟩ : ∃ n, (limbs a).length = n := ⟨_, rfl⟩
    have eb : (limbs b).length = n := hne.symm.trans ea
    rw [ea] at h1 ⊢
    rw [eb] at k1 ⊢
    have HA := hid ea; have HB := hid eb
    clear hne ea eb
    go_enter Tryz.func61, Tryz.ntmps61
    go_wp2_with fail
    go_loopw [5] (fun i wr => ∃ (k : Nat) (t : Int), k ≤ n ∧ i = .int .i64 t ∧ t = (k : Int) - 1 ∧ Hid ((limbs a).drop k = (limbs b).drop k) ∧ Hid (Below w.heap.size w wr)) (fun i _ => (intOf i + 1).toNat)
    case atStart => exact ⟨n, _, Nat.le_refl _, rfl, rfl, by rw [Hid, List.drop_of_length_le (by rw [HA.out]; exact Nat.le_refl _), List.drop_of_length_le (by rw [HB.out]; exact Nat.le_refl _)], Below.refl _ _⟩
    case round =>
      obtain ⟨k, t, hk, rfl, ht, hd, hB⟩ := hrel
      cases k with
      | zero =>
        obtain rfl : t = -1 := by omega
        clear ht
        go_wp2_with fail
        go_ret
        have : a = b := limbs_inj hd.out
        subst this
        exact ⟨ret_int ordN_eq.symm, hB.out⟩
      | succ k =>
        obtain rfl : t = (k : Int) := by omega
        clear ht
        obtain ⟨x, hx⟩ : ∃ x, (limbs a)[k]? = some x := ⟨_, List.getElem?_eq_getElem (by rw [HA.out]; omega)⟩
        obtain ⟨y, hy⟩ : ∃ y, (limbs b)[k]? = some y := ⟨_, List.getElem?_eq_getElem (by rw [HB.out]; omega)⟩
        obtain ⟨g, o, rfl, hg, hc⟩ := H3.out k x hx
        obtain ⟨g', o', rfl, hg', hc'⟩ := K3.out k y hy
        have d1 := (hB.out.cell (p := ⟨g, o + k, none⟩) hg).trans hc
        have d2 := (hB.out.cell (p := ⟨g', o' + k, none⟩) hg').trans hc'
        have HX := hid hx; have HY := hid hy; clear hx hy hc hc'
        have b1 : (0 : Int) ≤ (k : Int) := by omega
        have b2 : (k : Int) < (n : Int) := by omega
        rcases Nat.lt_trichotomy x y with hlt | heq | hgt
        · have q1 : decide (x < y) = true := by simpa using hlt
          go_wp2_with fail
          go_quiet (fail)
          go_wp2_with fail
          go_ret
          exact ⟨ret_int (ordN_lt (ord_lt_at (HA.out.trans HB.out.symm) HX.out HY.out hd.out hlt)).symm, below_drewN hB.out _⟩
        · have q1 : decide (x < y) = false := by simp; omega
          have q2 : decide (y < x) = false := by simp; omega
          go_wp2_with fail
          go_quiet (fail)
          go_wp2_with fail
          go_quiet (fail)
          go_wp2_with fail
          go_roundw
          case rel => exact ⟨k, _, by omega, rfl, rfl, drop_eq_next HX.out (by rw [HY.out, heq]) hd.out, below_drewN hB.out _⟩
          case measure => simp [intOf] <;> omega
        · have q1 : decide (x < y) = false := by simp; omega
          have q2 : decide (y < x) = true := by simpa using hgt
          go_wp2_with fail
          go_quiet (fail)
          go_wp2_with fail
          go_quiet (fail)
          go_wp2_with fail
          go_ret
          exact ⟨ret_int (ordN_gt (ord_lt_at (HB.out.trans HA.out.symm) HY.out HX.out hd.out.symm hgt)).symm, below_drewN (below_drewN hB.out _) _⟩
  · rcases Nat.lt_or_gt_of_ne hne with hlt | hgt
    · have HL := hid (lt_of_length hlt)
      have q0 : (((limbs a).length : Int) != ((limbs b).length : Int)) = true := by simp; omega
      have q1 : decide ((limbs a).length < (limbs b).length) = true := by simpa using hlt
      clear hne
      go_enter Tryz.func61, Tryz.ntmps61
      go_wp2_with fail
      go_ret
      exact ⟨ret_int (ordN_lt HL.out).symm, Below.refl _ _⟩
    · have HL := hid (lt_of_length hgt)
      have q0 : (((limbs a).length : Int) != ((limbs b).length : Int)) = true := by simp; omega
      have q1 : decide ((limbs a).length < (limbs b).length) = false := by simp; omega
      clear hne
      go_enter Tryz.func61, Tryz.ntmps61
      go_wp2_with fail
      go_ret
      exact ⟨ret_int (ordN_gt HL.out).symm, Below.refl _ _⟩
end Go.Proofs.YtpheklgnmbpobaaGreatDoor
namespace Go.Proofs.YtpheklgnmbpobaaGreatDoor
open Go.RowKit
set_option linter.unusedVariables false
theorem make_limbs (n : Nat) (hn : n ≤ 3000000) (W : World) : (Instr.makeSlice 69 (.int .i64 (n : Int)) (.int .i64 (n : Int))).run Tryz.prog W = .ok (.slice (some ⟨W.heap.size, 0, none⟩) n n) (W.alloc (.cells (madeCells #[.int .i64 0] n) 3)) :=
  run_make_row' (P := Tryz.prog) 69 3 (.int .i64 0) 8 Tryz.underlying69 (by kernel_rfl) rfl .i64 .i64 n (by omega) (by omega) W
set_option maxRecDepth 100000 in
set_option maxHeartbeats 4000000 in
theorem r1_Times (w : World) (v u : Value) (a b : Nat) (ha : IsN .i64 w v a) (hb : IsN .i64 w u b) (hla : (limbs a).length ≤ 1000000) (hlb : (limbs b).length ≤ 1000000) :
    Calls Tryz.prog 62 #[v, u] w fun e w' => RetN .i64 (a * b) e w' ∧ Below w.heap.size w w' := by
  obtain ⟨a1, c1, rfl, h1, h2, h3⟩ := ha.openI
  obtain ⟨a2, c2, rfl, k1, k2, k3⟩ := hb.openI
  have H3 := hid h3; have K3 := hid k3; clear h3 k3 ha hb
  obtain ⟨n, ea⟩ : ∃ n, (limbs a).length = n := ⟨_, rfl⟩
  obtain ⟨m, eb⟩ : ∃ m, (limbs b).length = m := ⟨_, rfl⟩
  rw [ea] at h1 hla ⊢
  rw [eb] at k1 hlb ⊢
  have HA := hid ea; have HB := hid eb
  clear ea eb
  have hmk : ∀ W : World, (Instr.makeSlice 69 (.int .i64 ((n : Int) + m)) (.int .i64 ((n : Int) + m))).run Tryz.prog W = .ok (.slice (some ⟨W.heap.size, 0, none⟩) (n + m) (n + m)) (W.alloc (.cells (madeCells #[.int .i64 0] (n + m)) 3)) := fun W => by
    have := make_limbs (n + m) (by omega) W
    rwa [Int.natCast_add] at this
  go_enter Tryz.func62, Tryz.ntmps62
  go_wp2_with fail
  clear hmk
  go_loopw [6] (fun i wr => ∃ (k : Nat) (o : List Nat), i = .int .i64 k ∧ k ≤ n ∧ Hid (MulI a b k o) ∧ Hid (Arr .i64 3 wr w.heap.size o) ∧ Hid (Below w.heap.size w wr)) (fun i _ => n - (intOf i).toNat)
  case atStart => exact ⟨0, _, rfl, Nat.zero_le _, MulI.start a b, by rw [HA.out, HB.out]; exact Arr.made w .i64 3 (n + m), (Below.refl _ _).alloc (Nat.le_refl _) _⟩
  case round =>
    obtain ⟨i, o, rfl, hin, hM, hO, hB⟩ := hrel
    by_cases hlt : i < n
    · obtain ⟨x, hx⟩ : ∃ x, (limbs a)[i]? = some x := ⟨_, List.getElem?_eq_getElem (by rw [HA.out]; exact hlt)⟩
      obtain ⟨g, og, rfl, hg, hc⟩ := H3.out _ x hx
      have HX := hid hx; have HC := hid hc; clear hx hc
      have hsize := hid (show o.length = n + m from by rw [hM.out.len, HA.out, HB.out])
      go_wp2_with fail
      obtain ⟨wo, rfl⟩ : ∃ wo : World, wo = wr := ⟨_, rfl⟩
      go_loopw [7, 8, 9] (fun cc kk nn wq => ∃ (c k : Nat) (o : List Nat), cc = .int .i64 c ∧ kk = .int .i64 k ∧ k ≤ m ∧ Hid (MulJ a b i x k c o) ∧ Hid (Arr .i64 3 wq w.heap.size o) ∧ Hid (Below w.heap.size w wq)) (fun _ kk _ _ => m - (intOf kk).toNat)
      case atStart => exact ⟨0, 0, o, rfl, rfl, Nat.zero_le _, hM.out.enter, hO, hB⟩
      case round =>
        obtain ⟨c, k, o, rfl, rfl, hkm, hJ, hO, hB⟩ := hrel
        have hsz : Hid (o.length = n + m) := by rw [Hid, hJ.out.len, HA.out, HB.out]
        by_cases hkl : k < m
        · obtain ⟨y, hy⟩ : ∃ y, (limbs b)[k]? = some y := ⟨_, List.getElem?_eq_getElem (by rw [HB.out]; exact hkl)⟩
          obtain ⟨g', og', rfl, hg', hd⟩ := K3.out _ y hy
          obtain ⟨old, ho⟩ : ∃ old, o[i + k]? = some old := ⟨_, List.getElem?_eq_getElem (by rw [hsz.out]; omega)⟩
          have d1 := (hB.out.cell (p := ⟨g, og + i, none⟩) hg).trans HC.out
          have d2 := (hB.out.cell (p := ⟨g', og' + k, none⟩) hg').trans hd
          have d3 := hO.out.cell ho
          have d4 := hO.out.free (i + k)
          have hb1 := mul_bound (hJ.out.sm.get ho) ((sm_limbs a).get HX.out) ((sm_limbs b).get hy) hJ.out.c1
          have HN := hid (hJ.out.next HX.out hy ho)
          have hol := hJ.out.sm.get ho
          have hcl := hJ.out.c1
          have HP := hid (show ((x : Int) * (y : Int)) = ((x * y : Nat) : Int) from (Int.natCast_mul x y).symm)
          obtain ⟨p, hp⟩ : ∃ p, x * y = p := ⟨_, rfl⟩
          rw [hp] at hb1 HN HP
          have hp2 := hb1.2; have hb1 := hb1.1
          clear hd hy ho hp
          have e1 : (0 : Int) ≤ (i : Int) + k := by omega
          have e2 : (i : Int) + k < (n : Int) + m := by omega
          have f1 : (0 : Int) ≤ (i : Int) := by omega
          have f2 : (i : Int) < (n : Int) := by omega
          have f3 : (0 : Int) ≤ (k : Int) := by omega
          have f4 : (k : Int) < (m : Int) := by omega
          have e3 : IntKind.i64.wrap ((i : Int) + k) = (i : Int) + k := IntWalk.i64_in _ (by omega)
          have e4 : ((i : Int) + k).toNat = i + k := by omega
          have e5 : IntKind.i64.wrap ((x : Int) * (y : Int)) = (p : Int) := by rw [HP.out]; exact IntWalk.i64_in _ (by omega)
          have e6 : IntKind.i64.wrap ((old : Int) + (p : Int)) = (old : Int) + (p : Int) := IntWalk.i64_in _ (by omega)
          have e7 : IntKind.i64.wrap ((old : Int) + (p : Int) + (c : Int)) = (old : Int) + (p : Int) + (c : Int) := IntWalk.i64_in _ (by omega)
          go_wp2_with fail
          go_quiet (fail)
          clear e3 e4 e5 e6 e7
          go_wp2_with fail
          go_roundw
          case rel =>
            have hz : (((old : Int) + p + c) % 1000000000) = (((old + p + c) % 1000000000 : Nat) : Int) := by omega
            rw [hz]
            exact ⟨(old + p + c) / 1000000000, k + 1, _, by go_num, by go_num, by omega, HN, (hO.out.drewN _).set (i + k) _, below_set (below_drewN hB.out _) (Nat.le_refl _) _⟩
          case measure => simp [intOf] <;> omega
        · obtain rfl : k = m := by omega
          have HJ := hid (show MulI a b (i + 1) (o.set (i + k) c) from by have := hJ.out; rw [← HB.out] at this ⊢; exact this.leave HX.out)
          obtain ⟨z, hz⟩ : ∃ z, o[i + k]? = some z := ⟨_, List.getElem?_eq_getElem (by rw [hsz.out]; omega)⟩
          have d3 := hO.out.cell hz
          have d4 := hO.out.free (i + k)
          clear hz
          go_wp2_with fail
          go_roundw
          case rel => exact ⟨i + 1, _, by go_num, by omega, HJ, hO.out.set (i + k) c, below_set hB.out (Nat.le_refl _) _⟩
          case measure => simp [intOf] <;> omega
    · obtain rfl : i = n := by omega
      have hv := hid (show val o = a * b from MulI.done (by have := hM.out; rw [← HA.out] at this; exact this))
      have hl := hid (show o.length = i + m from by rw [hM.out.len, HA.out, HB.out])
      have hr := hid (show Row wr (.slice (some ⟨w.heap.size, 0, none⟩) (i + m) (i + m)) (ints .i64 o) from by
        have := hO.out.row (n := i + m) (c := i + m) (by rw [hl.out]; exact Nat.le_refl _) (Nat.le_refl _) (by unfold maxLen; omega)
        rwa [List.take_of_length_le (by rw [hl.out]; exact Nat.le_refl _)] at this)
      go_wp2_with (go_at_call 102; refine (r1_trim _ _ o hM.out.sm hr.out).mono ?_; rintro e w1 ⟨⟨v1, rfl, hv1⟩, rfl⟩)
      go_ret
      exact ⟨⟨v1, rfl, by rw [← hv.out]; exact hv1⟩, hB.out⟩
end Go.Proofs.YtpheklgnmbpobaaGreatDoor
namespace Go.Proofs.YtpheklgnmbpobaaGreatDoor
open Go.RowKit
set_option linter.unusedVariables false
set_option maxRecDepth 100000 in
set_option maxHeartbeats 2000000 in
theorem r1_ReadF (w : World) (s : ByteArray) (hd : allDig s.data.toList) (hs : s.size ≤ 1000000) :
    Calls Tryz.prog 44 #[.string s] w fun e w' => RetFr w.heap.size .i64 (dv s.data.toList) e w' ∧ Below w.heap.size w w' := by
  obtain ⟨i0, hi, hz0, hz1, hz2⟩ := info_parts info_int
  have HD := hid hd; clear hd
  have hsl := hid (show s.data.toList.length = s.size from by simp)
  go_enter Tryz.func44, Tryz.ntmps44
  go_wp2_with fail
  go_loopw [3, 4, 5, 6] (fun o ee nn ii wr => ∃ (l : List Nat) (t : Int) (e : Nat), ee = .int .i64 t ∧ t ≤ s.size ∧ -9 < t ∧ e = t.toNat ∧ l.length ≤ s.size ∧ l.length + e ≤ s.size ∧ Hid (ReadI s.data.toList e l) ∧ Hid (wr.ownsRow w.heap.size 3 1 o l.length (ints .i64 l)) ∧ Hid (Below w.heap.size w wr))
    (fun _ ee _ _ _ => (intOf ee).toNat)
  case atStart => exact ⟨[], _, s.size, rfl, by omega, by omega, by simp, by simp, by simp, by have := ReadI.start s.data.toList; rw [hsl.out] at this; exact this, World.ownsRow_nil _ _ _ _, Below.refl _ _⟩
  case round =>
    obtain ⟨l, t, e, rfl, ht1, ht2, he, hl1, hl2, hR, hO, hB⟩ := hrel
    obtain ⟨ao, co, rfl⟩ := owns_ex hO.out
    by_cases h0 : e = 0
    · have q0 : decide ((0 : Int) < t) = false := by simp; omega
      subst h0
      have hv := hid hR.out.done
      clear he
      go_wp2_with fail
      refine (r1_trim_at _ _ _ l hR.out.sm (Row.of_owns hO.out)).mono ?_
      rintro e w1 ⟨⟨m, rfl, hv1⟩, rfl⟩
      go_wp2_with fail
      go_ret
      refine ⟨⟨_, rfl, by rw [← hv.out]; exact hv1, fun g hg => (hO.out.lt g ?_).1⟩, hB.out⟩
      cases ao with
      | none => simp [Value.ownBlock] at hg
      | some ad => simpa [Value.ownBlock] using hg
    · obtain rfl : t = (e : Int) := by omega
      clear he
      have q0 : decide ((0 : Int) < (e : Int)) = true := by simp; omega
      obtain ⟨L, hL⟩ : ∃ L, s.data.toList = L := ⟨_, rfl⟩
      obtain ⟨s0, hs0⟩ : ∃ s0, s0 = e - 9 := ⟨_, rfl⟩
      have HS0 := hid hs0
      have h3 : s0 ≤ e := by omega
      have h4 : e ≤ s0 + 9 := by omega
      have hI : (9 < e ∧ (e : Int) - 9 = (s0 : Int)) ∨ (e ≤ 9 ∧ (0 : Int) = (s0 : Int)) := by omega
      clear hs0
      rcases hI with ⟨h9, hse⟩ | ⟨h9, hse⟩
      all_goals
        have HSE := hid hse
        clear hse
        go_wp2_with fail
        go_loop [5, 6] (fun nn ii => ∃ (i x : Nat), ii = .int .i64 i ∧ nn = .int .i64 x ∧ s0 ≤ i ∧ i ≤ e ∧ x < 1000000000 ∧ Hid (x = dv ((L.drop s0).take (i - s0)))) (fun _ ii => e - (intOf ii).toNat)
        case atStart => exact ⟨s0, 0, by have hh := HSE.out; first | (rw [← hh]; done) | (congr 1; omega), rfl, Nat.le_refl _, h3, by omega, by simp [Hid]⟩
        case round =>
          obtain ⟨i, x, rfl, rfl, hi1, hi2, hx, hxd⟩ := hrel
          by_cases hlt : i < e
          · have hsz : i < s.size := by omega
            have hb := byte_get hsz
            rw [hL] at hb
            have hdig := isDig_iff.1 (HD.out s[i] (List.mem_of_getElem? (by rw [hL]; exact hb)))
            have hd1 := hdig.1; have hd2 := hdig.2
            have hcs := hid (chunk_succ hb hi1)
            have hlt9 := hid (chunk_lt (L := L) (a := s0) (k := i + 1 - s0) (by rw [← hL]; exact HD.out) (by omega))
            clear hb hdig
            go_wp2_with fail
            go_round
            case rel =>
              refine ⟨i + 1, 10 * x + (s[i].toNat - 48), by go_num, ?_, by omega, by omega, ?_, ?_⟩
              · congr 1; omega
              · have := hlt9.out; rw [hcs.out, ← hxd.out] at this; exact this
              · rw [Hid, hcs.out, ← hxd.out]
            case measure => simp [intOf] <;> omega
          · obtain rfl : i = e := by omega
            have HN := hid (hR.out.next HD.out)
            rw [hL, ← HS0.out, ← hxd.out] at HN
            go_wp2_with (at_builtin; refine wpList_append_own _ rfl _ _ 69 rfl w.heap.size 3 i0 (.int .i64 0) 1 8 Tryz.underlying69 hi hz0 hz1 hz2 rfl (by decide) _ l.length _ rfl (hO.out.alloc _) ⟨wr.heap.size, 0, none⟩ 1 1 [.int .i64 (x : Int)] rfl rfl (cell_one_new wr (.int .i64 (x : Int)) 3) (by simp [Value.oneCell']) (by unfold maxLen; omega) (by omega) (by have := hB.out.size; simp; omega) ?_; intro v' w3 hown3 hgrow3 _; have HO3 := hid hown3; have HG3 := hid hgrow3; clear hown3 hgrow3)
            obtain ⟨n1, n2⟩ := own_next hO.out hB.out HO3.out HG3.out
            have N1 := hid n1; have N2 := hid n2; clear n1 n2 HO3 HG3
            obtain ⟨a3, k3, rfl⟩ := owns_ex N1.out
            have hS := HS0.out
            go_wp2_with fail
            go_roundw
            case rel => exact ⟨l ++ [x], _, s0, rfl, by omega, by omega, by omega, by simp <;> omega, by simp <;> omega, by rw [hL]; exact HN, N1, N2⟩
            case measure => simp [intOf] <;> omega
theorem r1_Read (w : World) (s : ByteArray) (hd : allDig s.data.toList) (hs : s.size ≤ 1000000) :
    Calls Tryz.prog 44 #[.string s] w fun e w' => RetN .i64 (dv s.data.toList) e w' ∧ Below w.heap.size w w' := (r1_ReadF w s hd hs).mono fun e w' h => ⟨h.1.ret, h.2⟩
end Go.Proofs.YtpheklgnmbpobaaGreatDoor
namespace Go.Proofs.YtpheklgnmbpobaaGreatDoor
open Go.RowKit
open Go.Lib (decDigits nDigits)
set_option linter.unusedVariables false
theorem r1_Write (w : World) (v : Value) (n : Nat) (h : IsN .i64 w v n) (hl : (limbs n).length ≤ 1000000) : Calls Tryz.prog 47 #[v] w fun e w' => e = .returned (numV n) ∧ Below w.heap.size w w' := by
  rcases Nat.eq_zero_or_pos n with rfl | h0
  · exact r1_Write_zero w v h
  · exact r1_Write_pos w v n h h0 hl
theorem r1_Read_num (w : World) (a : Nat) (h : nDigits a ≤ 9000) : Calls Tryz.prog 44 #[.string (numB a)] w fun e w' => RetN .i64 a e w' ∧ Below w.heap.size w w' := by
  have := r1_Read w (numB a) (by rw [numB_list]; exact allDig_dec a) (by rw [numB_size]; omega)
  rwa [numB_list, dv_dec] at this
end Go.Proofs.YtpheklgnmbpobaaGreatDoor
namespace Go.Proofs.YtpheklgnmbpobaaGreatDoor
open Go.RowKit
open Go.Lib (decDigits nDigits)
set_option linter.unusedVariables false
set_option linter.unusedSimpArgs false
def WrKey (m : Bool) (B1 B2 T : ByteArray) (x : Int) : Prop :=
  (4000 < B1.size ∧ T = ⟨#[]⟩ ∧ x = 5) ∨ (B1.size ≤ 4000 ∧ 4000 < B2.size ∧ T = ⟨#[]⟩ ∧ x = 5) ∨
  (B1.size ≤ 4000 ∧ B2.size ≤ 4000 ∧ x = 0 ∧ ((m = false ∧ B2 = ⟨#[49]⟩ ∧ T = B1) ∨ (m = true ∧ B2 = ⟨#[49]⟩ ∧ T = ⟨#[45]⟩ ++ B1) ∨ (m = false ∧ ¬ B2 = ⟨#[49]⟩ ∧ T = B1 ++ ⟨#[47]⟩ ++ B2) ∨ (m = true ∧ ¬ B2 = ⟨#[49]⟩ ∧ T = ⟨#[45]⟩ ++ B1 ++ ⟨#[47]⟩ ++ B2)))
set_option maxRecDepth 100000 in
set_option maxHeartbeats 4000000 in
theorem r2_Write_walk (w : World) (m : Bool) (N D : Value) (n d : Nat) (B1 B2 T : ByteArray) (x : Int) (hn : IsN .i64 w N n) (hd : IsN .i64 w D d) (hln : (limbs n).length ≤ 1000000) (hld : (limbs d).length ≤ 1000000)
    (e1 : numB n = B1) (e2 : numB d = B2) (key : WrKey m B1 B2 T x) :
    Calls Tryz.prog 49 #[.agg #[.bool m, N, D]] w fun e w' => e = .returned (.tuple #[.string T, .int .i64 x]) ∧ Below w.heap.size w w' := by
  have HN := hid hn; have HD := hid hd; have LN := hid hln; have LD := hid hld; have E1 := hid e1; have E2 := hid e2
  obtain ⟨a1, c1, rfl, _⟩ := hn.openI
  obtain ⟨a2, c2, rfl, _⟩ := hd.openI
  obtain ⟨k1, hk1⟩ : ∃ k, (limbs n).length = k := ⟨_, rfl⟩
  obtain ⟨k2, hk2⟩ : ∃ k, (limbs d).length = k := ⟨_, rfl⟩
  rw [hk1] at HN ⊢
  rw [hk2] at HD ⊢
  clear hn hd hln hld e1 e2 hk1 hk2
  unfold WrKey at key
  rcases key with ⟨h1, rfl, rfl⟩ | ⟨h1, h2, rfl, rfl⟩ | ⟨h1, h2, rfl, ⟨rfl, rfl, rfl⟩ | ⟨rfl, rfl, rfl⟩ | ⟨rfl, h3, rfl⟩ | ⟨rfl, h3, rfl⟩⟩
  · have q0 : decide ((4000 : Int) < (B1.size : Int)) = true := by simp; omega
    clear h1
    go_enter Tryz.func49, Tryz.ntmps49
    go_wp2_with fail
    obtain ⟨W, hW⟩ : ∃ W, w.alloc (.cells #[.bool m, .slice a1 k1 c1, .slice a2 k2 c2] 75) = W := ⟨_, rfl⟩
    rw [hW]
    have X0 : Below w.heap.size w W := by rw [← hW]; exact (Below.refl _ _).alloc (Nat.le_refl _) _
    have Y0 : Blk W w.heap.size #[.bool m, .slice a1 k1 c1, .slice a2 k2 c2] 75 := by rw [← hW]; exact Blk.new w _ _
    have K : Hid (∀ w', Below W.heap.size W w' → w'.cell? ⟨w.heap.size, 0, none⟩ = some (.bool m) ∧ w'.cell? ⟨w.heap.size, 1, none⟩ = some (.slice a1 k1 c1) ∧ w'.cell? ⟨w.heap.size, 2, none⟩ = some (.slice a2 k2 c2)) :=
      fun w' hb => ⟨(Y0.call hb).cell 0, (Y0.call hb).cell 1, (Y0.call hb).cell 2⟩
    have HX0 := hid X0
    obtain ⟨k0, k1', k2'⟩ := K W (Below.refl _ _)
    have XN := hid (HN.out.call HX0.out); have XD := hid (HD.out.call HX0.out)
    clear Y0 X0 hW
    go_region_held3 (fun w' => w'.cell? ⟨w.heap.size, 0, none⟩ = some (.bool m) ∧ w'.cell? ⟨w.heap.size, 1, none⟩ = some (.slice a1 k1 c1) ∧ w'.cell? ⟨w.heap.size, 2, none⟩ = some (.slice a2 k2 c2))
      (first
        | exact K.out _ (Below.refl _ _).drew
        | exact K.out _ bb2.out
        | exact K.out _ bb1.out)
      (first
        | (go_at_call_of 47 (Value.slice a1 k1 c1); refine (r1_Write _ _ n (XN.out.call (by first | exact bb2.out | exact (Below.refl _ _).drew)) LN.out).mono ?_; rintro e w1 ⟨rfl, hb1⟩; rw [numV_eq, E1.out]; have bb1 := hid (bnext (by first | exact bb2.out | exact (Below.refl _ _).drew) hb1))
        | (go_at_call_of 47 (Value.slice a2 k2 c2); refine (r1_Write _ _ d (XD.out.call (by first | exact bb1.out | exact (Below.refl _ _).drew)) LD.out).mono ?_; rintro e w2 ⟨rfl, hb2⟩; rw [numV_eq, E2.out]; have bb2 := hid (bnext (by first | exact bb1.out | exact (Below.refl _ _).drew) hb2)))
    go_wp2_with fail
    go_ret2
    exact ⟨rfl, bnext HX0.out bb2.out⟩
  · have q0 : decide ((4000 : Int) < (B1.size : Int)) = false := by simp; omega
    have q1 : decide ((4000 : Int) < (B2.size : Int)) = true := by simp; omega
    clear h1 h2
    go_enter Tryz.func49, Tryz.ntmps49
    go_wp2_with fail
    obtain ⟨W, hW⟩ : ∃ W, w.alloc (.cells #[.bool m, .slice a1 k1 c1, .slice a2 k2 c2] 75) = W := ⟨_, rfl⟩
    rw [hW]
    have X0 : Below w.heap.size w W := by rw [← hW]; exact (Below.refl _ _).alloc (Nat.le_refl _) _
    have Y0 : Blk W w.heap.size #[.bool m, .slice a1 k1 c1, .slice a2 k2 c2] 75 := by rw [← hW]; exact Blk.new w _ _
    have K : Hid (∀ w', Below W.heap.size W w' → w'.cell? ⟨w.heap.size, 0, none⟩ = some (.bool m) ∧ w'.cell? ⟨w.heap.size, 1, none⟩ = some (.slice a1 k1 c1) ∧ w'.cell? ⟨w.heap.size, 2, none⟩ = some (.slice a2 k2 c2)) :=
      fun w' hb => ⟨(Y0.call hb).cell 0, (Y0.call hb).cell 1, (Y0.call hb).cell 2⟩
    have HX0 := hid X0
    obtain ⟨k0, k1', k2'⟩ := K W (Below.refl _ _)
    have XN := hid (HN.out.call HX0.out); have XD := hid (HD.out.call HX0.out)
    clear Y0 X0 hW
    go_region_held3 (fun w' => w'.cell? ⟨w.heap.size, 0, none⟩ = some (.bool m) ∧ w'.cell? ⟨w.heap.size, 1, none⟩ = some (.slice a1 k1 c1) ∧ w'.cell? ⟨w.heap.size, 2, none⟩ = some (.slice a2 k2 c2))
      (first
        | exact K.out _ (Below.refl _ _).drew
        | exact K.out _ bb2.out
        | exact K.out _ bb1.out)
      (first
        | (go_at_call_of 47 (Value.slice a1 k1 c1); refine (r1_Write _ _ n (XN.out.call (by first | exact bb2.out | exact (Below.refl _ _).drew)) LN.out).mono ?_; rintro e w1 ⟨rfl, hb1⟩; rw [numV_eq, E1.out]; have bb1 := hid (bnext (by first | exact bb2.out | exact (Below.refl _ _).drew) hb1))
        | (go_at_call_of 47 (Value.slice a2 k2 c2); refine (r1_Write _ _ d (XD.out.call (by first | exact bb1.out | exact (Below.refl _ _).drew)) LD.out).mono ?_; rintro e w2 ⟨rfl, hb2⟩; rw [numV_eq, E2.out]; have bb2 := hid (bnext (by first | exact bb1.out | exact (Below.refl _ _).drew) hb2)))
    go_wp2_with fail
    go_ret2
    exact ⟨rfl, bnext HX0.out bb2.out⟩
  · have q0 : decide ((4000 : Int) < (T.size : Int)) = false := by simp; omega
    clear h2
    go_enter Tryz.func49, Tryz.ntmps49
    go_wp2_with fail
    obtain ⟨W, hW⟩ : ∃ W, w.alloc (.cells #[.bool false, .slice a1 k1 c1, .slice a2 k2 c2] 75) = W := ⟨_, rfl⟩
    rw [hW]
    have X0 : Below w.heap.size w W := by rw [← hW]; exact (Below.refl _ _).alloc (Nat.le_refl _) _
    have Y0 : Blk W w.heap.size #[.bool false, .slice a1 k1 c1, .slice a2 k2 c2] 75 := by rw [← hW]; exact Blk.new w _ _
    have K : Hid (∀ w', Below W.heap.size W w' → w'.cell? ⟨w.heap.size, 0, none⟩ = some (.bool false) ∧ w'.cell? ⟨w.heap.size, 1, none⟩ = some (.slice a1 k1 c1) ∧ w'.cell? ⟨w.heap.size, 2, none⟩ = some (.slice a2 k2 c2)) :=
      fun w' hb => ⟨(Y0.call hb).cell 0, (Y0.call hb).cell 1, (Y0.call hb).cell 2⟩
    have HX0 := hid X0
    obtain ⟨k0, k1', k2'⟩ := K W (Below.refl _ _)
    have XN := hid (HN.out.call HX0.out); have XD := hid (HD.out.call HX0.out)
    clear Y0 X0 hW
    go_region_held3 (fun w' => w'.cell? ⟨w.heap.size, 0, none⟩ = some (.bool false) ∧ w'.cell? ⟨w.heap.size, 1, none⟩ = some (.slice a1 k1 c1) ∧ w'.cell? ⟨w.heap.size, 2, none⟩ = some (.slice a2 k2 c2))
      (first
        | exact K.out _ (Below.refl _ _).drew
        | exact K.out _ bb2.out
        | exact K.out _ bb1.out)
      (first
        | (go_at_call_of 47 (Value.slice a1 k1 c1); refine (r1_Write _ _ n (XN.out.call (by first | exact bb2.out | exact (Below.refl _ _).drew)) LN.out).mono ?_; rintro e w1 ⟨rfl, hb1⟩; rw [numV_eq, E1.out]; have bb1 := hid (bnext (by first | exact bb2.out | exact (Below.refl _ _).drew) hb1))
        | (go_at_call_of 47 (Value.slice a2 k2 c2); refine (r1_Write _ _ d (XD.out.call (by first | exact bb1.out | exact (Below.refl _ _).drew)) LD.out).mono ?_; rintro e w2 ⟨rfl, hb2⟩; rw [numV_eq, E2.out]; have bb2 := hid (bnext (by first | exact bb1.out | exact (Below.refl _ _).drew) hb2)))
    go_wp2_with fail
    go_ret2
    exact ⟨rfl, bnext HX0.out bb2.out⟩
  · have q0 : decide ((4000 : Int) < (B1.size : Int)) = false := by simp; omega
    clear h2
    go_enter Tryz.func49, Tryz.ntmps49
    go_wp2_with fail
    obtain ⟨W, hW⟩ : ∃ W, w.alloc (.cells #[.bool true, .slice a1 k1 c1, .slice a2 k2 c2] 75) = W := ⟨_, rfl⟩
    rw [hW]
    have X0 : Below w.heap.size w W := by rw [← hW]; exact (Below.refl _ _).alloc (Nat.le_refl _) _
    have Y0 : Blk W w.heap.size #[.bool true, .slice a1 k1 c1, .slice a2 k2 c2] 75 := by rw [← hW]; exact Blk.new w _ _
    have K : Hid (∀ w', Below W.heap.size W w' → w'.cell? ⟨w.heap.size, 0, none⟩ = some (.bool true) ∧ w'.cell? ⟨w.heap.size, 1, none⟩ = some (.slice a1 k1 c1) ∧ w'.cell? ⟨w.heap.size, 2, none⟩ = some (.slice a2 k2 c2)) :=
      fun w' hb => ⟨(Y0.call hb).cell 0, (Y0.call hb).cell 1, (Y0.call hb).cell 2⟩
    have HX0 := hid X0
    obtain ⟨k0, k1', k2'⟩ := K W (Below.refl _ _)
    have XN := hid (HN.out.call HX0.out); have XD := hid (HD.out.call HX0.out)
    clear Y0 X0 hW
    go_region_held3 (fun w' => w'.cell? ⟨w.heap.size, 0, none⟩ = some (.bool true) ∧ w'.cell? ⟨w.heap.size, 1, none⟩ = some (.slice a1 k1 c1) ∧ w'.cell? ⟨w.heap.size, 2, none⟩ = some (.slice a2 k2 c2))
      (first
        | exact K.out _ (Below.refl _ _).drew
        | exact K.out _ bb2.out
        | exact K.out _ bb1.out)
      (first
        | (go_at_call_of 47 (Value.slice a1 k1 c1); refine (r1_Write _ _ n (XN.out.call (by first | exact bb2.out | exact (Below.refl _ _).drew)) LN.out).mono ?_; rintro e w1 ⟨rfl, hb1⟩; rw [numV_eq, E1.out]; have bb1 := hid (bnext (by first | exact bb2.out | exact (Below.refl _ _).drew) hb1))
        | (go_at_call_of 47 (Value.slice a2 k2 c2); refine (r1_Write _ _ d (XD.out.call (by first | exact bb1.out | exact (Below.refl _ _).drew)) LD.out).mono ?_; rintro e w2 ⟨rfl, hb2⟩; rw [numV_eq, E2.out]; have bb2 := hid (bnext (by first | exact bb1.out | exact (Below.refl _ _).drew) hb2)))
    go_wp2_with fail
    go_ret2
    exact ⟨rfl, bnext HX0.out bb2.out⟩
  · have q0 : decide ((4000 : Int) < (B1.size : Int)) = false := by simp; omega
    have q1 : decide ((4000 : Int) < (B2.size : Int)) = false := by simp; omega
    have i3 := ne_lit (l := [49]) h3
    go_enter Tryz.func49, Tryz.ntmps49
    go_wp2_with fail
    obtain ⟨W, hW⟩ : ∃ W, w.alloc (.cells #[.bool false, .slice a1 k1 c1, .slice a2 k2 c2] 75) = W := ⟨_, rfl⟩
    rw [hW]
    have X0 : Below w.heap.size w W := by rw [← hW]; exact (Below.refl _ _).alloc (Nat.le_refl _) _
    have Y0 : Blk W w.heap.size #[.bool false, .slice a1 k1 c1, .slice a2 k2 c2] 75 := by rw [← hW]; exact Blk.new w _ _
    have K : Hid (∀ w', Below W.heap.size W w' → w'.cell? ⟨w.heap.size, 0, none⟩ = some (.bool false) ∧ w'.cell? ⟨w.heap.size, 1, none⟩ = some (.slice a1 k1 c1) ∧ w'.cell? ⟨w.heap.size, 2, none⟩ = some (.slice a2 k2 c2)) :=
      fun w' hb => ⟨(Y0.call hb).cell 0, (Y0.call hb).cell 1, (Y0.call hb).cell 2⟩
    have HX0 := hid X0
    obtain ⟨k0, k1', k2'⟩ := K W (Below.refl _ _)
    have XN := hid (HN.out.call HX0.out); have XD := hid (HD.out.call HX0.out)
    clear Y0 X0 hW
    go_region_held3 (fun w' => w'.cell? ⟨w.heap.size, 0, none⟩ = some (.bool false) ∧ w'.cell? ⟨w.heap.size, 1, none⟩ = some (.slice a1 k1 c1) ∧ w'.cell? ⟨w.heap.size, 2, none⟩ = some (.slice a2 k2 c2))
      (first
        | exact K.out _ (Below.refl _ _).drew
        | exact K.out _ bb2.out
        | exact K.out _ bb1.out)
      (first
        | (go_at_call_of 47 (Value.slice a1 k1 c1); refine (r1_Write _ _ n (XN.out.call (by first | exact bb2.out | exact (Below.refl _ _).drew)) LN.out).mono ?_; rintro e w1 ⟨rfl, hb1⟩; rw [numV_eq, E1.out]; have bb1 := hid (bnext (by first | exact bb2.out | exact (Below.refl _ _).drew) hb1))
        | (go_at_call_of 47 (Value.slice a2 k2 c2); refine (r1_Write _ _ d (XD.out.call (by first | exact bb1.out | exact (Below.refl _ _).drew)) LD.out).mono ?_; rintro e w2 ⟨rfl, hb2⟩; rw [numV_eq, E2.out]; have bb2 := hid (bnext (by first | exact bb1.out | exact (Below.refl _ _).drew) hb2)))
    go_wp2_with fail
    go_ret2
    exact ⟨rfl, bnext HX0.out bb2.out⟩
  · have q0 : decide ((4000 : Int) < (B1.size : Int)) = false := by simp; omega
    have q1 : decide ((4000 : Int) < (B2.size : Int)) = false := by simp; omega
    have i3 := ne_lit (l := [49]) h3
    go_enter Tryz.func49, Tryz.ntmps49
    go_wp2_with fail
    obtain ⟨W, hW⟩ : ∃ W, w.alloc (.cells #[.bool true, .slice a1 k1 c1, .slice a2 k2 c2] 75) = W := ⟨_, rfl⟩
    rw [hW]
    have X0 : Below w.heap.size w W := by rw [← hW]; exact (Below.refl _ _).alloc (Nat.le_refl _) _
    have Y0 : Blk W w.heap.size #[.bool true, .slice a1 k1 c1, .slice a2 k2 c2] 75 := by rw [← hW]; exact Blk.new w _ _
    have K : Hid (∀ w', Below W.heap.size W w' → w'.cell? ⟨w.heap.size, 0, none⟩ = some (.bool true) ∧ w'.cell? ⟨w.heap.size, 1, none⟩ = some (.slice a1 k1 c1) ∧ w'.cell? ⟨w.heap.size, 2, none⟩ = some (.slice a2 k2 c2)) :=
      fun w' hb => ⟨(Y0.call hb).cell 0, (Y0.call hb).cell 1, (Y0.call hb).cell 2⟩
    have HX0 := hid X0
    obtain ⟨k0, k1', k2'⟩ := K W (Below.refl _ _)
    have XN := hid (HN.out.call HX0.out); have XD := hid (HD.out.call HX0.out)
    clear Y0 X0 hW
    go_region_held3 (fun w' => w'.cell? ⟨w.heap.size, 0, none⟩ = some (.bool true) ∧ w'.cell? ⟨w.heap.size, 1, none⟩ = some (.slice a1 k1 c1) ∧ w'.cell? ⟨w.heap.size, 2, none⟩ = some (.slice a2 k2 c2))
      (first
        | exact K.out _ (Below.refl _ _).drew
        | exact K.out _ bb2.out
        | exact K.out _ bb1.out)
      (first
        | (go_at_call_of 47 (Value.slice a1 k1 c1); refine (r1_Write _ _ n (XN.out.call (by first | exact bb2.out | exact (Below.refl _ _).drew)) LN.out).mono ?_; rintro e w1 ⟨rfl, hb1⟩; rw [numV_eq, E1.out]; have bb1 := hid (bnext (by first | exact bb2.out | exact (Below.refl _ _).drew) hb1))
        | (go_at_call_of 47 (Value.slice a2 k2 c2); refine (r1_Write _ _ d (XD.out.call (by first | exact bb1.out | exact (Below.refl _ _).drew)) LD.out).mono ?_; rintro e w2 ⟨rfl, hb2⟩; rw [numV_eq, E2.out]; have bb2 := hid (bnext (by first | exact bb1.out | exact (Below.refl _ _).drew) hb2)))
    go_wp2_with fail
    go_ret2
    exact ⟨rfl, bnext HX0.out bb2.out⟩
theorem numB_is1 {d : Nat} : numB d = ⟨#[49]⟩ ↔ d = 1 := by
  constructor
  · intro h
    rw [← numB_one] at h
    rcases Nat.decEq d 1 with h1 | h1
    · exact absurd h (numB_ne h1)
    · exact h1
  · rintro rfl; exact numB_one
theorem r2_Write (w : World) (v : Value) (q : Rat) (h : IsQ .i64 w v q) (h1 : (limbs q.num.natAbs).length ≤ 1000000) (h2 : (limbs q.den).length ≤ 1000000) :
    Calls Tryz.prog 49 #[v] w fun e w' => e = .returned (.tuple #[.string (outB q), .int .i64 (outE q)]) ∧ Below w.heap.size w w' := by
  obtain ⟨N, D, rfl, hn, hd⟩ := h.ex
  refine r2_Write_walk w _ N D q.num.natAbs q.den (numB q.num.natAbs) (numB q.den) (outB q) (outE q) hn hd h1 h2 rfl rfl ?_
  unfold WrKey outB outE
  rw [numB_size, numB_size]
  by_cases o1 : 4000 < nDigits q.num.natAbs
  · have ho : ovQ q := .inl o1
    rw [if_pos ho, if_pos ho]
    exact .inl ⟨o1, rfl, rfl⟩
  · by_cases o2 : 4000 < nDigits q.den
    · have ho : ovQ q := .inr o2
      rw [if_pos ho, if_pos ho]
      exact .inr (.inl ⟨by omega, o2, rfl, rfl⟩)
    · have ho : ¬ ovQ q := fun h => h.elim o1 o2
      rw [if_neg ho, if_neg ho]
      refine .inr (.inr ⟨by omega, by omega, rfl, ?_⟩)
      unfold txQ
      rw [numB_is1]
      generalize decide (q.num < 0) = m
      by_cases hd1 : q.den = 1
      · rw [hd1]
        cases m
        · exact .inl ⟨rfl, rfl, ba_ext (by simp [txB, numB])⟩
        · exact .inr (.inl ⟨rfl, rfl, ba_ext (by simp [txB, numB])⟩)
      · cases m
        · exact .inr (.inr (.inl ⟨rfl, hd1, ba_ext (by simp [txB, numB, hd1])⟩))
        · exact .inr (.inr (.inr ⟨rfl, hd1, ba_ext (by simp [txB, numB, hd1])⟩))
end Go.Proofs.YtpheklgnmbpobaaGreatDoor
namespace Go.Proofs.YtpheklgnmbpobaaGreatDoor
open Go.RowKit
open Go.Lib (decDigits nDigits)
set_option linter.unusedVariables false
def RetPow (n : Nat) (e : Ending) (w' : World) : Prop :=
  (nDigits n ≤ 4000 ∧ ∃ v, e = .returned (.tuple #[v, .bool true]) ∧ IsN .i64 w' v n) ∨ (4000 < nDigits n ∧ e = .returned (.tuple #[.slice none 0 0, .bool false]))
theorem isN_one (w : World) : IsN .i64 (w.alloc (.cells #[.int .i64 1] 3)) (.slice (some ⟨w.heap.size, 0, none⟩) 1 1) 1 := by
  unfold IsN
  rw [limbs_one]
  exact Row.of_blk (b := w.heap.size) (n := 1) (c := 1) (cs := #[.int .i64 1]) (Blk.new w _ _) rfl (by unfold maxLen; omega) (fun i x hx => by simpa [ints] using hx) (Nat.le_refl _) (by unfold maxLen; omega)
theorem bits_and_one (m : Nat) (h : m < 9223372036854775808) : bits .and .i64 (m : Int) 1 = ((m % 2 : Nat) : Int) := by
  show IntKind.i64.wrap ((BitVec.ofInt 64 (m : Int) &&& BitVec.ofInt 64 1).toNat : Int) = _
  have h1 : (BitVec.ofInt 64 (m : Int)).toNat = m := by rw [BitVec.ofInt_natCast, BitVec.toNat_ofNat]; exact Nat.mod_eq_of_lt (by omega)
  rw [BitVec.toNat_and, h1, show (BitVec.ofInt 64 1).toNat = 1 by rfl, Nat.and_one_is_mod, IntKind.wrap_i64]
  omega
theorem bit_test (n k : Nat) (h : n ≤ 9223372036854775807) : (bits .and .i64 ((n : Int) / 2 ^ k) 1 == 1) = decide (n / 2 ^ k % 2 = 1) := by
  have h1 : ((n : Int) / 2 ^ k) = ((n / 2 ^ k : Nat) : Int) := by rw [Int.natCast_ediv, Int.natCast_pow]; rfl
  have h2 : n / 2 ^ k ≤ n := Nat.div_le_self _ _
  rw [h1, bits_and_one _ (by omega), Bool.eq_iff_iff, beq_iff_eq, decide_eq_true_eq]
  omega
theorem half_pow (a n k : Nat) : a ^ (n / 2 ^ k) = a ^ (n / 2 ^ (k + 1)) * a ^ (n / 2 ^ (k + 1)) * (if n / 2 ^ k % 2 = 1 then a else 1) := by
  have h : n / 2 ^ (k + 1) = n / 2 ^ k / 2 := by rw [Nat.pow_succ, Nat.div_div_eq_div_mul]
  rw [h]
  generalize n / 2 ^ k = m
  have hm : m = m / 2 + m / 2 + m % 2 := by omega
  conv => lhs; rw [hm]
  rw [Nat.pow_add, Nat.pow_add]
  rcases (show m % 2 = 0 ∨ m % 2 = 1 by omega) with e | e
  · rw [e, if_neg (by omega), Nat.pow_zero]
  · rw [e, if_pos rfl, Nat.pow_one]
set_option maxHeartbeats 1000000 in
theorem r1_Power_zero (w : World) (v : Value) (a : Nat) (ha : IsN .i64 w v a) : Calls Tryz.prog 55 #[v, .int .i64 0] w fun e w' => RetPow (a ^ 0) e w' ∧ Below w.heap.size w w' := by
  have H1 := hid (isN_one w)
  go_enter Tryz.func55, Tryz.ntmps55
  go_wp2_with fail
  go_ret2
  exact ⟨.inl ⟨by rw [Nat.pow_zero, nDigits_one]; omega, _, rfl, by rw [Nat.pow_zero]; exact H1.out⟩, (Below.refl _ _).alloc (Nat.le_refl _) _⟩
set_option maxHeartbeats 1000000 in
theorem r1_Power_small (w : World) (v : Value) (a n : Nat) (ha : IsN .i64 w v a) (hs : a ≤ 1) (hn : 0 < n) (hn2 : n ≤ 9223372036854775807) : Calls Tryz.prog 55 #[v, .int .i64 n] w fun e w' => RetPow (a ^ n) e w' ∧ Below w.heap.size w w' := by
  have H1 := hid (isN_one w)
  have HA := hid ha
  have hord := hid (show ordN a 1 ≤ 0 from by unfold ordN; split; · omega
                                              · split <;> omega)
  have hpow := hid (show a ^ n = a ∧ nDigits a ≤ 4000 from by
    rcases (show a = 0 ∨ a = 1 by omega) with rfl | rfl
    · exact ⟨Nat.zero_pow hn, by rw [nDigits_zero]; omega⟩
    · exact ⟨Nat.one_pow n, by rw [nDigits_one]; omega⟩)
  obtain ⟨a1, c1, rfl, _⟩ := ha.openI
  have q0 : ((n : Int) == 0) = false := by simp; omega
  have hb0 : Below w.heap.size w (w.alloc (.cells #[.int .i64 1] 3)) := (Below.refl _ _).alloc (Nat.le_refl _) _
  have HB0 := hid hb0
  clear ha hs hb0
  go_enter Tryz.func55, Tryz.ntmps55
  go_wp2_with fail
  refine (r1_Order _ _ _ a 1 (HA.out.call HB0.out) H1.out).mono ?_; rintro e w1 ⟨rfl, hb1⟩
  have B1 := hid (bnext HB0.out hb1); clear hb1
  obtain ⟨t, ht⟩ : ∃ t, ordN a 1 = t := ⟨_, rfl⟩
  rw [ht] at hord ⊢
  have q1 : decide (t ≤ 0) = true := by have := hord.out; simp; omega
  clear ht
  go_wp2_with fail
  go_ret2
  exact ⟨.inl ⟨by rw [hpow.out.1]; exact hpow.out.2, _, rfl, by rw [hpow.out.1]; exact HA.out.call B1.out⟩, B1.out⟩
set_option maxHeartbeats 1000000 in
theorem r1_Power_big (w : World) (v : Value) (a n : Nat) (ha : IsN .i64 w v a) (hs : 1 < a) (hd : nDigits a ≤ 4000) (hn : 0 < n) (hn2 : n ≤ 9223372036854775807) : Calls Tryz.prog 55 #[v, .int .i64 n] w fun e w' => RetPow (a ^ n) e w' ∧ Below w.heap.size w w' := by
  have H1 := hid (isN_one w)
  have HA := hid ha
  have hord := hid (ordN_gt hs)
  obtain ⟨a1, c1, rfl, _⟩ := ha.openI
  have q0 : ((n : Int) == 0) = false := by simp; omega
  have hb0 : Below w.heap.size w (w.alloc (.cells #[.int .i64 1] 3)) := (Below.refl _ _).alloc (Nat.le_refl _) _
  have HB0 := hid hb0; have HS := hid hs; have HD := hid hd
  clear ha hs hb0 hd
  go_enter Tryz.func55, Tryz.ntmps55
  go_wp2_with fail
  refine (r1_Order _ _ _ a 1 (HA.out.call HB0.out) H1.out).mono ?_; rintro e w1 ⟨rfl, hb1⟩
  have B1 := hid (bnext HB0.out hb1); have O1 := hid (H1.out.call hb1); clear hb1
  rw [hord.out]
  go_wp2_with fail
  go_loopw [7, 8] (fun oo kk wr => ∃ (j : Nat) (t : Int), kk = .int .i64 t ∧ t = (j : Int) - 1 ∧ j ≤ 63 ∧ Hid (IsN .i64 wr oo (a ^ (n / 2 ^ j))) ∧ Hid (nDigits (a ^ (n / 2 ^ j)) ≤ 4000) ∧ Hid (Below w.heap.size w wr)) (fun _ kk _ => (intOf kk + 1).toNat)
  case atStart => exact ⟨63, _, rfl, by omega, by omega, by rw [Nat.div_eq_of_lt (by omega), Nat.pow_zero]; exact O1, by rw [Nat.div_eq_of_lt (by omega), Nat.pow_zero, nDigits_one, Hid]; omega, B1⟩
  case round =>
    obtain ⟨j, t, rfl, ht, hj, hO, hD, hB⟩ := hrel
    obtain ⟨a2, c2, rfl, _⟩ := hO.out.openI
    cases j with
    | zero =>
      obtain rfl : t = -1 := by omega
      clear ht
      go_wp2_with fail
      go_ret2
      have h2 := hD.out
      rw [Nat.pow_zero, Nat.div_one] at h2
      exact ⟨.inl ⟨h2, _, rfl, hO.out.cast (by rw [Nat.pow_zero, Nat.div_one])⟩, hB.out⟩
    | succ k =>
      obtain rfl : t = (k : Int) := by omega
      clear ht
      have hl := hid (limbs_of_digits hD.out)
      have hla := hid (limbs_of_digits HD.out)
      have hbt := bit_test n k hn2
      by_cases hbit : n / 2 ^ k % 2 = 1
      · rw [decide_eq_true hbit] at hbt
        have HM := hid (show a ^ (n / 2 ^ k) = a ^ (n / 2 ^ (k + 1)) * a ^ (n / 2 ^ (k + 1)) * a from by rw [half_pow, if_pos hbit])
        have HLM := hid (show (limbs (a ^ (n / 2 ^ (k + 1)) * a ^ (n / 2 ^ (k + 1)) * a)).length ≤ 1000000 from by have := limbs_mul (limbs_mul hl.out hl.out) hla.out; omega)
        clear hbit
        go_wp2_with fail
        refine (r1_Times _ _ _ _ _ hO.out hO.out (by have := hl.out; omega) (by have := hl.out; omega)).mono ?_
        rintro e w2 ⟨⟨v2, rfl, hv2⟩, hb2⟩
        have V2 := hid hv2; have B2 := hid (bnext hB.out hb2); clear hv2 hb2
        go_wp2_with fail
        refine (r1_Times _ v2 _ _ a V2.out (HA.out.call B2.out) (by have := limbs_mul hl.out hl.out; omega) (by have := hla.out; omega)).mono ?_
        rintro e w3 ⟨⟨v3, rfl, hv3⟩, hb3⟩
        have V3 := hid hv3; have B3 := hid (bnext B2.out hb3); clear hv3 hb3
        obtain ⟨Bs, hBs⟩ : ∃ Bs, numB (a ^ (n / 2 ^ (k + 1)) * a ^ (n / 2 ^ (k + 1)) * a) = Bs := ⟨_, rfl⟩
        have HBS := hid hBs
        have hBz := hid (show Bs.size = nDigits (a ^ (n / 2 ^ (k + 1)) * a ^ (n / 2 ^ (k + 1)) * a) from by rw [← hBs]; exact numB_size _)
        clear hBs
        by_cases hlong : 4000 < nDigits (a ^ (n / 2 ^ (k + 1)) * a ^ (n / 2 ^ (k + 1)) * a)
        · have q3 : decide ((4000 : Int) < (Bs.size : Int)) = true := by rw [hBz.out]; simp; omega
          have HLO := hid (show 4000 < nDigits (a ^ n) from Nat.lt_of_lt_of_le hlong (by rw [← HM.out]; exact nDigits_mono (Nat.pow_le_pow_right (by have := HS.out; omega) (Nat.div_le_self _ _))))
          clear hlong
          go_wp2_with fail
          refine (r1_Write _ v3 (a ^ (n / 2 ^ (k + 1)) * a ^ (n / 2 ^ (k + 1)) * a) V3.out HLM.out).mono ?_; rintro e w9 ⟨rfl, hb9⟩
          have B9 := hid (bnext B3.out hb9); clear hb9
          rw [numV_eq, HBS.out]
          go_wp2_with fail
          go_ret2
          exact ⟨.inr ⟨HLO.out, rfl⟩, B9.out⟩
        · have q3 : decide ((4000 : Int) < (Bs.size : Int)) = false := by rw [hBz.out]; simp; omega
          have HLO := hid (show nDigits (a ^ (n / 2 ^ k)) ≤ 4000 from by rw [HM.out]; omega)
          clear hlong
          go_wp2_with fail
          refine (r1_Write _ v3 (a ^ (n / 2 ^ (k + 1)) * a ^ (n / 2 ^ (k + 1)) * a) V3.out HLM.out).mono ?_; rintro e w9 ⟨rfl, hb9⟩
          have B9 := hid (bnext B3.out hb9); have V9 := hid (V3.out.call hb9); clear hb9
          rw [numV_eq, HBS.out]
          go_wp2_with fail
          go_roundw
          case rel => exact ⟨k, _, rfl, rfl, by omega, by rw [HM.out]; exact V9, HLO, B9⟩
          case measure => simp [intOf] <;> omega
      · rw [decide_eq_false hbit] at hbt
        have HM := hid (show a ^ (n / 2 ^ k) = a ^ (n / 2 ^ (k + 1)) * a ^ (n / 2 ^ (k + 1)) from by rw [half_pow, if_neg hbit, Nat.mul_one])
        have HLM := hid (show (limbs (a ^ (n / 2 ^ (k + 1)) * a ^ (n / 2 ^ (k + 1)))).length ≤ 1000000 from by have := limbs_mul hl.out hl.out; omega)
        clear hbit
        go_wp2_with fail
        refine (r1_Times _ _ _ _ _ hO.out hO.out (by have := hl.out; omega) (by have := hl.out; omega)).mono ?_
        rintro e w2 ⟨⟨v2, rfl, hv2⟩, hb2⟩
        have V2 := hid hv2; have B2 := hid (bnext hB.out hb2); clear hv2 hb2
        obtain ⟨Bs, hBs⟩ : ∃ Bs, numB (a ^ (n / 2 ^ (k + 1)) * a ^ (n / 2 ^ (k + 1))) = Bs := ⟨_, rfl⟩
        have HBS := hid hBs
        have hBz := hid (show Bs.size = nDigits (a ^ (n / 2 ^ (k + 1)) * a ^ (n / 2 ^ (k + 1))) from by rw [← hBs]; exact numB_size _)
        clear hBs
        by_cases hlong : 4000 < nDigits (a ^ (n / 2 ^ (k + 1)) * a ^ (n / 2 ^ (k + 1)))
        · have q3 : decide ((4000 : Int) < (Bs.size : Int)) = true := by rw [hBz.out]; simp; omega
          have HLO := hid (show 4000 < nDigits (a ^ n) from Nat.lt_of_lt_of_le hlong (by rw [← HM.out]; exact nDigits_mono (Nat.pow_le_pow_right (by have := HS.out; omega) (Nat.div_le_self _ _))))
          clear hlong
          go_wp2_with fail
          refine (r1_Write _ v2 (a ^ (n / 2 ^ (k + 1)) * a ^ (n / 2 ^ (k + 1))) V2.out HLM.out).mono ?_; rintro e w9 ⟨rfl, hb9⟩
          have B9 := hid (bnext B2.out hb9); clear hb9
          rw [numV_eq, HBS.out]
          go_wp2_with fail
          go_ret2
          exact ⟨.inr ⟨HLO.out, rfl⟩, B9.out⟩
        · have q3 : decide ((4000 : Int) < (Bs.size : Int)) = false := by rw [hBz.out]; simp; omega
          have HLO := hid (show nDigits (a ^ (n / 2 ^ k)) ≤ 4000 from by rw [HM.out]; omega)
          clear hlong
          go_wp2_with fail
          refine (r1_Write _ v2 (a ^ (n / 2 ^ (k + 1)) * a ^ (n / 2 ^ (k + 1))) V2.out HLM.out).mono ?_; rintro e w9 ⟨rfl, hb9⟩
          have B9 := hid (bnext B2.out hb9); have V9 := hid (V2.out.call hb9); clear hb9
          rw [numV_eq, HBS.out]
          go_wp2_with fail
          go_roundw
          case rel => exact ⟨k, _, rfl, rfl, by omega, by rw [HM.out]; exact V9, HLO, B9⟩
          case measure => simp [intOf] <;> omega
theorem r1_Power (w : World) (v : Value) (a n : Nat) (ha : IsN .i64 w v a) (hd : nDigits a ≤ 4000) (hn2 : n ≤ 9223372036854775807) : Calls Tryz.prog 55 #[v, .int .i64 n] w fun e w' => RetPow (a ^ n) e w' ∧ Below w.heap.size w w' := by
  rcases Nat.eq_zero_or_pos n with rfl | hn
  · exact r1_Power_zero w v a ha
  · by_cases hs : 1 < a
    · exact r1_Power_big w v a n ha hs hd hn hn2
    · exact r1_Power_small w v a n ha (by omega) hn hn2
end Go.Proofs.YtpheklgnmbpobaaGreatDoor
namespace Go.Proofs.YtpheklgnmbpobaaGreatDoor
open Go.RowKit
set_option linter.unusedVariables false
def Ret2N (k : IntKind) (n m : Nat) (e : Ending) (w' : World) : Prop := ∃ v, e = .returned (.tuple #[v, .int k (m : Int)]) ∧ IsN k w' v n
set_option maxRecDepth 100000 in
set_option maxHeartbeats 4000000 in
theorem r1_short (w : World) (v : Value) (a d : Nat) (ha : IsN .i64 w v a) (hd0 : 0 < d) (hd1 : d < 1000000000) (hla : (limbs a).length ≤ 1000000) :
    Calls Tryz.prog 190 #[v, .int .i64 d] w fun e w' => Ret2N .i64 (a / d) (a % d) e w' ∧ Below w.heap.size w w' := by
  obtain ⟨a1, c1, rfl, h1, h2, h3⟩ := ha.openI
  have H3 := hid h3; clear h3 ha
  obtain ⟨n, ea⟩ : ∃ n, (limbs a).length = n := ⟨_, rfl⟩
  rw [ea] at h1 hla ⊢
  have HA := hid ea
  clear ea
  have hmk := fun W => make_limbs n (by omega) W
  have hdz : ((d : Int) == 0) = false := by simp; omega
  go_enter Tryz.func190, Tryz.ntmps190
  go_wp2_with fail
  clear hmk
  go_loopw [7, 8, 9] (fun rr ii nn wr => ∃ (j r : Nat) (t : Int) (o : List Nat), rr = .int .i64 r ∧ ii = .int .i64 t ∧ t = (j : Int) - 1 ∧ j ≤ n ∧ Hid (SmallI a d j r o) ∧ Hid (Arr .i64 3 wr w.heap.size o) ∧ Hid (Below w.heap.size w wr)) (fun _ ii _ _ => (intOf ii + 1).toNat)
  case atStart => exact ⟨n, 0, _, _, rfl, rfl, rfl, Nat.le_refl _, by have := SmallI.start (a := a) hd0; rw [HA.out] at this; exact this, Arr.made w .i64 3 n, (Below.refl _ _).alloc (Nat.le_refl _) _⟩
  case round =>
    obtain ⟨j, r, t, o, rfl, rfl, ht, hj, hS, hO, hB⟩ := hrel
    have hsz : Hid (o.length = n) := by rw [Hid, hS.out.len, HA.out]
    cases j with
    | zero =>
      obtain rfl : t = -1 := by omega
      clear ht
      have hv := hid hS.out.done
      have hr := hid (show Row wr (.slice (some ⟨w.heap.size, 0, none⟩) n n) (ints .i64 o) from by
        have := hO.out.row (n := n) (c := n) (by rw [hsz.out]; exact Nat.le_refl _) (Nat.le_refl _) (by unfold maxLen; omega)
        rwa [List.take_of_length_le (by rw [hsz.out]; exact Nat.le_refl _)] at this)
      go_wp2_with (go_at_call 102; refine (r1_trim _ _ o hS.out.sm hr.out).mono ?_; rintro e w1 ⟨⟨v1, rfl, hv1⟩, rfl⟩)
      go_ret2
      exact ⟨⟨v1, ret_tup (by rw [hv.out.2]), by rw [← hv.out.1]; exact hv1⟩, hB.out⟩
    | succ j =>
      obtain rfl : t = (j : Int) := by omega
      clear ht
      obtain ⟨x, hx⟩ : ∃ x, (limbs a)[j]? = some x := ⟨_, List.getElem?_eq_getElem (by rw [HA.out]; omega)⟩
      obtain ⟨g, og, rfl, hg, hc⟩ := H3.out _ x hx
      have d1 := (hB.out.cell (p := ⟨g, og + j, none⟩) hg).trans hc
      obtain ⟨z, hz⟩ : ∃ z, o[j]? = some z := ⟨_, List.getElem?_eq_getElem (by rw [hsz.out]; omega)⟩
      have d3 := hO.out.cell hz
      have d4 := hO.out.free j
      have HN := hid (hS.out.next hx)
      have hxl := (sm_limbs a).get hx
      have hrl := hS.out.rd
      clear hx hc hz
      go_wp2_with fail
      go_roundw
      case rel =>
        have e1 : (((r : Int) * 1000000000 + x) / d) = (((r * 1000000000 + x) / d : Nat) : Int) := by rw [Int.natCast_ediv]; rfl
        have e2 : (((r : Int) * 1000000000 + x) % d) = (((r * 1000000000 + x) % d : Nat) : Int) := by rw [Int.natCast_emod]; rfl
        rw [e1]
        exact ⟨j, _, _, _, by rw [e2], rfl, by omega, by omega, HN, hO.out.set j _, below_set hB.out (Nat.le_refl _) _⟩
      case measure => simp [intOf] <;> omega
end Go.Proofs.YtpheklgnmbpobaaGreatDoor
namespace Go.Proofs.YtpheklgnmbpobaaGreatDoor
open Go.RowKit
set_option linter.unusedVariables false
def RetArr (k : IntKind) (t : TypeId) (B n len : Nat) (e : Ending) (w' : World) : Prop := ∃ g o, e = .returned (.slice (some ⟨g, 0, none⟩) len len) ∧ B ≤ g ∧ Arr k t w' g o ∧ o.length = len ∧ Sm o ∧ val o = n
set_option maxRecDepth 100000 in
set_option maxHeartbeats 4000000 in
theorem r1_scaled (w : World) (v : Value) (a d : Nat) (ha : IsN .i64 w v a) (hd1 : d < 1000000000) (hla : (limbs a).length ≤ 1000000) :
    Calls Tryz.prog 191 #[v, .int .i64 d] w fun e w' => RetArr .i64 3 w.heap.size (a * d) ((limbs a).length + 1) e w' ∧ Below w.heap.size w w' := by
  obtain ⟨a1, c1, rfl, h1, h2, h3⟩ := ha.openI
  have H3 := hid h3; clear h3 ha
  obtain ⟨n, ea⟩ : ∃ n, (limbs a).length = n := ⟨_, rfl⟩
  rw [ea] at h1 hla ⊢
  have HA := hid ea
  clear ea
  have hmk : ∀ W : World, (Instr.makeSlice 69 (.int .i64 ((n : Int) + 1)) (.int .i64 ((n : Int) + 1))).run Tryz.prog W = .ok (.slice (some ⟨W.heap.size, 0, none⟩) (n + 1) (n + 1)) (W.alloc (.cells (madeCells #[.int .i64 0] (n + 1)) 3)) := fun W => by
    have := make_limbs (n + 1) (by omega) W
    rwa [Int.natCast_add] at this
  go_enter Tryz.func191, Tryz.ntmps191
  go_wp2_with fail
  clear hmk
  go_loopw [6, 7, 8] (fun cc ii nn wr => ∃ (i c : Nat) (o : List Nat), cc = .int .i64 c ∧ ii = .int .i64 i ∧ i ≤ n ∧ Hid (ScaleI a d i c o) ∧ Hid (Arr .i64 3 wr w.heap.size o) ∧ Hid (Below w.heap.size w wr)) (fun _ ii _ _ => n - (intOf ii).toNat)
  case atStart => exact ⟨0, 0, _, rfl, rfl, Nat.zero_le _, ScaleI.start a d, by rw [HA.out]; exact Arr.made w .i64 3 (n + 1), (Below.refl _ _).alloc (Nat.le_refl _) _⟩
  case round =>
    obtain ⟨i, c, o, rfl, rfl, hin, hS, hO, hB⟩ := hrel
    have hsz : Hid (o.length = n + 1) := by rw [Hid, hS.out.len, HA.out]
    by_cases hlt : i < n
    · obtain ⟨x, hx⟩ : ∃ x, (limbs a)[i]? = some x := ⟨_, List.getElem?_eq_getElem (by rw [HA.out]; exact hlt)⟩
      obtain ⟨g, og, rfl, hg, hc⟩ := H3.out _ x hx
      have d1 := (hB.out.cell (p := ⟨g, og + i, none⟩) hg).trans hc
      obtain ⟨z, hz⟩ : ∃ z, o[i]? = some z := ⟨_, List.getElem?_eq_getElem (by rw [hsz.out]; omega)⟩
      have d3 := hO.out.cell hz
      have d4 := hO.out.free i
      have HN := hid (hS.out.next hd1 hx)
      have hb1 := mul_bound (old := 0) (by omega) ((sm_limbs a).get hx) hd1 hS.out.c1
      have hcl := hS.out.c1
      clear hx hc hz
      have HP := hid (show ((x : Int) * (d : Int)) = ((x * d : Nat) : Int) from (Int.natCast_mul x d).symm)
      obtain ⟨p, hp⟩ : ∃ p, x * d = p := ⟨_, rfl⟩
      rw [hp] at hb1 HN HP
      have hp2 := hb1.2; clear hb1 hp
      have e5 : IntKind.i64.wrap ((x : Int) * (d : Int)) = (p : Int) := by rw [HP.out]; exact IntWalk.i64_in _ (by omega)
      have e5' : wrap64 ((x : Int) * (d : Int)) = (p : Int) := by rw [HP.out]; exact IntWalk.wrap64_in _ (by omega)
      go_wp2_with fail
      clear e5 e5'
      go_roundw
      case rel =>
        have hz : (((p : Int) + c) % 1000000000) = (((p + c) % 1000000000 : Nat) : Int) := by omega
        rw [hz]
        exact ⟨i + 1, (p + c) / 1000000000, _, by go_num, by go_num, by omega, HN, hO.out.set i _, below_set hB.out (Nat.le_refl _) _⟩
      case measure => simp [intOf] <;> omega
    · obtain rfl : i = n := by omega
      obtain ⟨z, hz⟩ : ∃ z, o[i]? = some z := ⟨_, List.getElem?_eq_getElem (by rw [hsz.out]; omega)⟩
      have d3 := hO.out.cell hz
      have d4 := hO.out.free i
      clear hz
      have hD := hid (show val (o.set i c) = a * d ∧ Sm (o.set i c) ∧ (o.set i c).length = i + 1 from by have := hS.out; rw [← HA.out] at this ⊢; exact this.done)
      go_wp2_with fail
      go_ret
      exact ⟨⟨w.heap.size, _, rfl, Nat.le_refl _, hO.out.set i c, hD.out.2.2, hD.out.2.1, hD.out.1⟩, below_set hB.out (Nat.le_refl _) _⟩
end Go.Proofs.YtpheklgnmbpobaaGreatDoor
namespace Go.Proofs.YtpheklgnmbpobaaGreatDoor
open Go.RowKit
set_option linter.unusedVariables false
def StepOut (us vs : List Nat) (gu j n : Nat) (w : World) (e : Ending) (w' : World) : Prop :=
  e = .returned (.int .i64 ((val ((us.drop j).take (n + 1)) / val vs : Nat) : Int)) ∧ ∃ o, WinOut us j n (val ((us.drop j).take (n + 1)) % val vs) o ∧ Arr .i64 3 w' gu o ∧ w.grownBy w' (some gu)
set_option maxRecDepth 100000 in
set_option maxHeartbeats 8000000 in
theorem r1_step (w : World) (gu j cu : Nat) (us : List Nat) (gv ov cv : Nat) (vs : List Nat) (n : Nat) (hS : StepIn us vs j n) (hU : Arr .i64 3 w gu us) (hV : Row w (.slice (some ⟨gv, ov, none⟩) n cv) (ints .i64 vs)) (hne : gv ≠ gu) :
    Calls Tryz.prog 192 #[.slice (some ⟨gu, j, none⟩) (n + 1) cu, .slice (some ⟨gv, ov, none⟩) n cv] w fun e w' => StepOut us vs gu j n w e w' := by
  have n2 := hS.n2; have nm := hS.nm; have lu := hS.lu; have um := hS.um
  have cv' : ∀ i, i < n → w.cell? ⟨gv, ov + i, none⟩ = some (.int .i64 (vs.getD i 0 : Nat)) := fun i hi => by
    obtain ⟨g, o, e, hg, hc⟩ := hV.at (ints_get (getD_some (l := vs) (i := i) (by rw [hS.lv]; exact hi)))
    simp at e
    obtain ⟨rfl, rfl⟩ := e
    exact hc
  have cu' : ∀ i, i ≤ n → w.cell? ⟨gu, j + i, none⟩ = some (.int .i64 (us.getD (j + i) 0 : Nat)) := fun i hi => hU.cell (getD_some (by omega))
  have hE := hid hS.est
  have a0 := cu' n (Nat.le_refl _)
  have a1 := cu' (n - 1) (by omega)
  have a2 := cu' (n - 2) (by omega)
  have b1 := cv' (n - 1) (by omega)
  have b2 := cv' (n - 2) (by omega)
  have CV := hid cv'; have CU := hid cu'; have HS := hid hS; have HU := hid hU
  clear cv' cu' hS hU hV
  obtain ⟨u0, hu0⟩ : ∃ x, us.getD (j + n) 0 = x := ⟨_, rfl⟩
  obtain ⟨u1, hu1⟩ : ∃ x, us.getD (j + (n - 1)) 0 = x := ⟨_, rfl⟩
  obtain ⟨u2, hu2⟩ : ∃ x, us.getD (j + (n - 2)) 0 = x := ⟨_, rfl⟩
  obtain ⟨v1, hv1⟩ : ∃ x, vs.getD (n - 1) 0 = x := ⟨_, rfl⟩
  obtain ⟨v2, hv2⟩ : ∃ x, vs.getD (n - 2) 0 = x := ⟨_, rfl⟩
  rw [hu0, hu1, hu2, hv1, hv2] at hE
  rw [hu0] at a0; rw [hu1] at a1; rw [hu2] at a2; rw [hv1] at b1; rw [hv2] at b2
  have HU0 := hid hu0; clear hu0 hu1 hu2 hv1 hv2
  have l0 := hE.out.b0; have l1 := hE.out.b1; have l2 := hE.out.b2; have l3 := hE.out.c1; have l4 := hE.out.c2; have l5 := hE.out.v0
  have dz : ((v1 : Int) == 0) = false := by simp; omega
  have f1 : (0 : Int) ≤ (n : Int) - 1 := by omega
  have f2 : (n : Int) - 1 < (n : Int) + 1 := by omega
  have f3 : (n : Int) - 1 < (n : Int) := by omega
  have f4 : (0 : Int) ≤ (n : Int) - 2 := by omega
  have f5 : (n : Int) - 2 < (n : Int) + 1 := by omega
  have f6 : (n : Int) - 2 < (n : Int) := by omega
  have f7 : (0 : Int) ≤ (n : Int) := by omega
  have f8 : (n : Int) < (n : Int) + 1 := by omega
  have e1 : IntKind.i64.wrap ((n : Int) - 1) = (n : Int) - 1 := IntWalk.i64_in _ (by omega)
  have e2 : IntKind.i64.wrap ((n : Int) - 2) = (n : Int) - 2 := IntWalk.i64_in _ (by omega)
  have e3 : ((n : Int) - 1).toNat = n - 1 := by omega
  have e4 : ((n : Int) - 2).toNat = n - 2 := by omega
  have e5 : IntKind.i64.wrap ((u0 : Int) * 1000000000) = (u0 : Int) * 1000000000 := IntWalk.i64_in _ (by omega)
  have e6 : IntKind.i64.wrap ((u0 : Int) * 1000000000 + u1) = (u0 : Int) * 1000000000 + u1 := IntWalk.i64_in _ (by omega)
  go_enter Tryz.func192, Tryz.ntmps192
  go_wp2_with fail
  go_quiet (fail)
  clear e5 e6
  go_wp2_with fail
  go_quiet (fail)
  go_upto_block 0 with (fail)
  rename_i nq1 nq2
  obtain ⟨V, hV⟩ : ∃ V, val vs = V := ⟨_, rfl⟩
  obtain ⟨U, hU⟩ : ∃ U, val ((us.drop j).take (n + 1)) = U := ⟨_, rfl⟩
  rw [hU, hV] at hE
  have HVU := hid (And.intro hU hV); clear hU hV
  go_cut [7] (fun gg wx => ∃ (G q : Nat), gg = .int .i64 G ∧ wx = w.drewN q ∧ G < 1000000000 ∧ Hid (U / V ≤ G ∧ G * V < U + V))
  case first =>
    go_wp2_with fail
    go_loopw [7, 8] (fun gg rr wr => ∃ G R q : Nat, gg = .int .i64 G ∧ rr = .int .i64 R ∧ wr = w.drewN q ∧ Hid (EstI U V u0 u1 v1 G R)) (fun gg _ _ => (intOf gg).toNat)
    case atStart =>
      exact ⟨_, _, _, by rw [Int.natCast_ediv]; rfl, by rw [Int.natCast_emod]; rfl, by rw [World.drewN_drewN], EstI.start hE.out⟩
    case round =>
      obtain ⟨G, R, q, rfl, rfl, rfl, hI⟩ := hrel
      have g2 := hI.out.g2; have r2 := hI.out.r2
      by_cases hR : R < 1000000000
      · have q1 : decide ((R : Int) < 1000000000) = true := by simp; omega
        by_cases hG : 1000000000 ≤ G
        · have q2 : decide ((1000000000 : Int) ≤ (G : Int)) = true := by simp; omega
          have HN := hid (hI.out.big hE.out hR hG)
          go_wp2_with fail
          go_big_quiet (fail)
          clear q1 q2
          go_wp2_with fail
          go_quiet (fail)
          go_wp2_with fail
          go_roundw
          case rel => exact ⟨G - 1, R + v1, _, by go_num, by go_num, by rw [World.drewN_drewN, World.drewN_drewN], HN⟩
          case measure => simp [intOf] <;> omega
        · have q2 : decide ((1000000000 : Int) ≤ (G : Int)) = false := by simp; omega
          obtain ⟨p, hp⟩ : ∃ p, G * v2 = p := ⟨_, rfl⟩
          have hpb : p ≤ 999999999 * 999999999 := by rw [← hp]; exact Nat.mul_le_mul (by omega) (by omega)
          have HPI := hid (show ((G : Int) * (v2 : Int)) = (p : Int) from by rw [← Int.natCast_mul, hp])
          by_cases hT : R * 1000000000 + u2 < p
          · have q3 : decide ((R : Int) * 1000000000 + u2 < (p : Int)) = true := by simp; omega
            have HN := hid (hI.out.less hE.out hR (by rw [hp]; exact hT))
            have hg0 := HN.out.2
            clear hp hT
            obtain ⟨x5, x6, x7⟩ : IntKind.i64.wrap ((G : Int) * (v2 : Int)) = (p : Int) ∧ IntKind.i64.wrap ((R : Int) * 1000000000) = (R : Int) * 1000000000 ∧ IntKind.i64.wrap ((R : Int) * 1000000000 + u2) = (R : Int) * 1000000000 + u2 := by
              refine ⟨by rw [HPI.out]; exact IntWalk.i64_in _ (by omega), IntWalk.i64_in _ (by omega), IntWalk.i64_in _ (by omega)⟩
            go_wp2_with fail
            go_big_quiet (fail)
            clear q1 q2 q3 x5 x6 x7
            go_wp2_with fail
            go_quiet (fail)
            go_wp2_with fail
            go_roundw
            case rel => exact ⟨G - 1, R + v1, _, by go_num, by go_num, by rw [World.drewN_drewN, World.drewN_drewN], HN.out.1⟩
            case measure => simp [intOf] <;> omega
          · have q3 : decide ((R : Int) * 1000000000 + u2 < (p : Int)) = false := by simp; omega
            have HD := hid (hI.out.done hE.out (.inr ⟨by omega, by rw [hp]; omega⟩))
            have HQ := hid hI.out.q
            clear hp hT
            obtain ⟨x5, x6, x7⟩ : IntKind.i64.wrap ((G : Int) * (v2 : Int)) = (p : Int) ∧ IntKind.i64.wrap ((R : Int) * 1000000000) = (R : Int) * 1000000000 ∧ IntKind.i64.wrap ((R : Int) * 1000000000 + u2) = (R : Int) * 1000000000 + u2 := by
              refine ⟨by rw [HPI.out]; exact IntWalk.i64_in _ (by omega), IntWalk.i64_in _ (by omega), IntWalk.i64_in _ (by omega)⟩
            go_wp2_with fail
            go_big_quiet (fail)
            clear q1 q2 q3 x5 x6 x7
            go_wp2_with fail
            go_meet
            exact ⟨G, _, rfl, by rw [World.drewN_drewN], HD.out.1, HQ.out, HD.out.2⟩
      · have q1 : decide ((R : Int) < 1000000000) = false := by simp; omega
        have HD := hid (hI.out.done hE.out (.inl (by omega)))
        have HQ := hid hI.out.q
        go_wp2_with fail
        go_big_quiet (fail)
        clear q1
        go_wp2_with fail
        go_meet
        exact ⟨G, _, rfl, by rw [World.drewN_drewN], HD.out.1, HQ.out, HD.out.2⟩
  case rest =>
    obtain ⟨G, q, rfl, rfl, hG, hQ⟩ := hcut
    have hE1 := hE
    clear a0 a1 a2 b1 b2 dz f1 f2 f3 f4 f5 f6 f7 f8 e1 e2 e3 e4 hE l0 l1 l2 l3 l4 l5
    go_wp2_with fail
    go_loopw [9, 10, 11, 12] (fun bb ii tt xx wr => ∃ (i c : Nat) (o : List Nat), bb = .int .i64 c ∧ ii = .int .i64 i ∧ i ≤ n ∧ Hid (MsubI us vs j n G i c o) ∧ Hid (Arr .i64 3 wr gu o) ∧ Hid (w.grownBy wr (some gu))) (fun _ ii _ _ _ => n - (intOf ii).toNat)
    case atStart => exact ⟨0, 0, us, rfl, rfl, Nat.zero_le _, MsubI.start HS.out.su, HU.out.drewN q, gb_drewN (World.grownBy.refl w _) q⟩
    case round =>
      obtain ⟨i, c, o, rfl, rfl, hin, hM, hO, hB⟩ := hrel
      have hol := hid hM.out.len
      have hcG := hM.out.c1
      by_cases hlt : i < n
      · have d1 := hO.out.cell (getD_some (l := o) (i := j + i) (by rw [hol.out]; omega))
        have d4 := hO.out.free (j + i)
        have d2 := gb_cell hB.out (CV.out i hlt) hne
        have hvl := HS.out.sv.getD i
        have hul := HS.out.su.getD (j + i)
        rw [getD_drop_eq hM.out.hi] at d1
        obtain ⟨T, M, z, c', hT, hM1, hz, hc', z1, z2, z3, z4, z5, z6, z7, z8⟩ := ref_msub hul hcG hG hvl
        have HN := hid (hM.out.next (by omega) lu z1 z2 z3)
        obtain ⟨ui, hui⟩ : ∃ x, us.getD (j + i) 0 = x := ⟨_, rfl⟩
        obtain ⟨vi, hvi⟩ : ∃ x, vs.getD i 0 = x := ⟨_, rfl⟩
        rw [hui] at d1 hul hT; rw [hvi] at d2 hvl hT
        clear hui hvi z3
        obtain ⟨p, hp⟩ : ∃ p, G * vi = p := ⟨_, rfl⟩
        have hpb : p ≤ 999999999 * 999999999 := by rw [← hp]; exact Nat.mul_le_mul (by omega) (by omega)
        have HPI := hid (show ((G : Int) * (vi : Int)) = (p : Int) from by rw [← Int.natCast_mul, hp])
        rw [hp] at hT
        have HT := hid hT; have HM1 := hid hM1; have HZ := hid hz; have HC := hid hc'
        clear hp hT hM1 hz hc'
        have f1 : (0 : Int) ≤ (i : Int) := by omega
        have f2 : (i : Int) < (n : Int) := by omega
        have f3 : (i : Int) < (n : Int) + 1 := by omega
        obtain ⟨x5, x6, x7⟩ : IntKind.i64.wrap ((G : Int) * (vi : Int)) = (p : Int) ∧ IntKind.i64.wrap ((ui : Int) - c) = (ui : Int) - c ∧ IntKind.i64.wrap ((ui : Int) - c - p) = T := by
          refine ⟨by rw [HPI.out]; exact IntWalk.i64_in _ (by omega), IntWalk.i64_in _ (by omega), by rw [HT.out]; exact IntWalk.i64_in _ (by omega)⟩
        go_wp2_with fail
        go_quiet (fail)
        clear x5 x6 x7
        have y1 := HM1.out; have y2 := HZ.out; have y3 := HC.out
        go_wp2_with fail
        clear y1 y2 y3
        go_roundw
        case rel => exact ⟨i + 1, c', _, by rw [HC.out], by go_num, by omega, HN, (hO.out.drewN _).set (j + i) z, gb_set (gb_drewN hB.out _) _ _⟩
        case measure => simp [intOf] <;> omega
      · obtain rfl : i = n := by omega
        have hg0 := getD_drop_eq hM.out.hi
        have d1 := hO.out.cell (getD_some (l := o) (i := j + i) (by rw [hol.out]; omega))
        have d4 := hO.out.free (j + i)
        rw [hg0, HU0.out] at d1
        have hV0 := hE1.out.pos
        have l0 := hE1.out.b0
        clear hg0
        by_cases hc : c ≤ u0
        · obtain ⟨r1, r2, r3⟩ := hM.out.fits lu HS.out.lv HS.out.sv HVU.out.1 HVU.out.2 HU0.out hQ.out.1 hV0 hc
          have R1 := hid r1; have R3 := hid r3
          subst r2
          clear r1 r3 hc
          go_wp2_with fail
          refine wp_loop_rounds 1 ?_
          rw [rounds_succ]
          go_wp2_with fail
          go_ret
          refine ⟨ret_int (by rw [HVU.out.1, HVU.out.2, ← R1.out]), _, by rw [HVU.out.1, HVU.out.2]; exact R3.out, hO.out.set (j + i) 0, gb_set hB.out _ _⟩
        · obtain ⟨hc1, hadd⟩ := hM.out.lacks lu HS.out.lv HS.out.sv HVU.out.1 HVU.out.2 HU0.out hQ.out.1 hQ.out.2 hV0 (by omega)
          have HADD := hid hadd
          have hsub : ((u0 : Int) - (c : Int)) = -1 := by omega
          have hcb : (c : Int) ≤ 1000000000 := by omega
          have HN := hid (hO.out.setN (j + i) (-1))
          have HG := hid (gb_set hB.out (j + i) (.int .i64 (-1)))
          clear hadd hc hc1
          go_wp2_with fail
          refine wp_loop_rounds 2 ?_
          rw [rounds_succ]
          clear hsub
          obtain ⟨wx, hwx⟩ : ∃ wx, wr.setCell ⟨gu, j + i, none⟩ (.int .i64 (-1)) = wx := ⟨_, rfl⟩
          rw [hwx] at HN HG ⊢
          clear hwx d1 d4
          have k1 := HN.out.self (m := j + i) (by rw [hol.out]; omega)
          go_wp2_with fail
          go_loopw [13, 14, 15] (fun cc ii tt wq => ∃ (y k : Nat) (p : List Nat), cc = .int .i64 k ∧ ii = .int .i64 y ∧ y ≤ i ∧ Hid (AddI o vs j y k p) ∧ Hid (ArrN .i64 3 wq gu p (j + i) (-1)) ∧ Hid (w.grownBy wq (some gu))) (fun _ ii _ _ => i - (intOf ii).toNat)
          case atStart => exact ⟨0, 0, o, rfl, rfl, Nat.zero_le _, AddI.start hM.out.sm, HN, HG⟩
          case round =>
            obtain ⟨y, k, p, rfl, rfl, hyi, hA, hP, hB2⟩ := hrel
            have hpl := hid (show p.length = us.length from by rw [hA.out.len, hol.out])
            by_cases hlt2 : y < i
            · have d1 := hP.out.cell (i := j + y) (by omega) (getD_some (l := p) (i := j + y) (by rw [hpl.out]; omega))
              have d4 := hP.out.free (j + y)
              have d2 := gb_cell hB2.out (CV.out y hlt2) hne
              rw [getD_drop_eq hA.out.hi] at d1
              have HN2 := hid (hA.out.next hM.out.sm HS.out.sv (by rw [hol.out]; omega))
              have hvl := HS.out.sv.getD y
              have hul := hM.out.sm.getD (j + y)
              have hk1 := hA.out.k1
              obtain ⟨ui, hui⟩ : ∃ x, o.getD (j + y) 0 = x := ⟨_, rfl⟩
              obtain ⟨vi, hvi⟩ : ∃ x, vs.getD y 0 = x := ⟨_, rfl⟩
              rw [hui] at d1 hul; rw [hvi] at d2 hvl; rw [hui, hvi] at HN2
              clear hui hvi
              have f1 : (0 : Int) ≤ (y : Int) := by omega
              have f2 : (y : Int) < (i : Int) := by omega
              have f3 : (y : Int) < (i : Int) + 1 := by omega
              have hkI : (k : Int) ≤ 1 := by omega
              obtain ⟨x5, x6⟩ : IntKind.i64.wrap ((ui : Int) + vi) = (ui : Int) + vi ∧ IntKind.i64.wrap ((ui : Int) + vi + k) = (ui : Int) + vi + k := by
                refine ⟨IntWalk.i64_in _ (by omega), IntWalk.i64_in _ (by omega)⟩
              go_wp2_with fail
              go_quiet (fail)
              clear x5 x6
              go_wp2_with fail
              go_roundw
              case rel =>
                have hz : (((ui : Int) + vi + k) % 1000000000) = (((ui + vi + k) % 1000000000 : Nat) : Int) := by omega
                rw [hz]
                exact ⟨y + 1, _, _, by go_num, by go_num, by omega, HN2, (hP.out.drewN _).set (by omega) _, gb_set (gb_drewN hB2.out _) _ _⟩
              case measure => simp [intOf] <;> omega
            · obtain rfl : y = i := by omega
              obtain ⟨r0, r1, r2, r3⟩ := HADD.out k p hA.out
              subst r0
              have R1 := hid r1; have R3 := hid r3
              have k1 := hP.out.self (m := j + y) (by rw [hpl.out]; omega)
              have k2 := hP.out.free (j + y)
              clear r1 r3
              go_wp2_with fail
              rw [rounds_succ]
              go_wp2_with fail
              go_ret
              refine ⟨ret_int (by rw [HVU.out.1, HVU.out.2, R1.out]; omega), _, by rw [HVU.out.1, HVU.out.2]; exact R3.out, hP.out.back 0, gb_set hB2.out _ _⟩
end Go.Proofs.YtpheklgnmbpobaaGreatDoor
namespace Go.Proofs.YtpheklgnmbpobaaGreatDoor
open Go.RowKit
set_option linter.unusedVariables false
theorem divide_less (w : World) (v u : Value) (a b : Nat) (ha : IsN .i64 w v a) (hb : IsN .i64 w u b) (hlt : a < b) :
    Calls Tryz.prog 148 #[v, u] w fun e w' => RetNN .i64 (a / b) (a % b) e w' ∧ Below w.heap.size w w' := by
  have HA := hid ha; have HB := hid hb; have HL := hid (ordN_lt hlt); have HQ := hid (Nat.div_eq_of_lt hlt); have HR := hid (Nat.mod_eq_of_lt hlt)
  obtain ⟨a1, c1, rfl, _⟩ := ha.openI
  obtain ⟨a2, c2, rfl, _⟩ := hb.openI
  clear ha hb hlt
  go_enter Tryz.func148, Tryz.ntmps148
  go_wp2_with fail
  refine (r1_Order _ _ _ a b HA.out HB.out).mono ?_; rintro e w1 ⟨rfl, hb1⟩
  have B1 := hid hb1; clear hb1
  rw [HL.out]
  go_wp2_with fail
  go_ret2
  exact ⟨⟨_, _, rfl, by rw [HQ.out]; exact IsN.zero _ _, by rw [HR.out]; exact HA.out.call B1.out⟩, B1.out⟩
set_option maxRecDepth 100000 in
set_option maxHeartbeats 2000000 in
theorem divide_one (w : World) (v u : Value) (a b : Nat) (ha : IsN .i64 w v a) (hb : IsN .i64 w u b) (hle : b ≤ a) (h0 : 0 < b) (h1 : b < 1000000000) (hla : (limbs a).length ≤ 1000000) :
    Calls Tryz.prog 148 #[v, u] w fun e w' => RetNN .i64 (a / b) (a % b) e w' ∧ Below w.heap.size w w' := by
  have HA := hid ha; have HB := hid hb
  have hord : ordN a b = 0 ∨ ordN a b = 1 := by
    unfold ordN; split
    · omega
    · split <;> simp
  obtain ⟨a1, c1, rfl, h1', _⟩ := ha.openI
  obtain ⟨a2, c2, rfl, h2', h3', h4'⟩ := hb.openI
  have hl1 : limbs b = [b] := limbs_small h0 h1
  obtain ⟨g, o, rfl, hg, hc⟩ := h4' 0 b (by rw [hl1]; rfl)
  rw [Nat.add_zero] at hc
  have HC := hid hc
  have hlen : (limbs b).length = 1 := by rw [hl1]; rfl
  rw [hlen] at HB h2' ⊢
  clear ha hb hc h4' hl1 hlen
  go_enter Tryz.func148, Tryz.ntmps148
  go_wp2_with fail
  refine (r1_Order _ _ _ a b HA.out HB.out).mono ?_; rintro e w1 ⟨rfl, hb1⟩
  have d1 := (hb1.cell (p := ⟨g, o, none⟩) hg).trans HC.out
  have B1 := hid hb1; clear hb1
  obtain ⟨t, ht⟩ : ∃ t, ordN a b = t := ⟨_, rfl⟩
  rw [ht] at hord ⊢
  have q0 : decide (t < 0) = false := by simp; omega
  clear ht hord
  go_wp2_with fail
  refine (r1_short _ _ a b (HA.out.call B1.out) h0 h1 hla).mono ?_; rintro e w2 ⟨⟨v2, rfl, hv2⟩, hb2⟩
  have B2 := hid hb2; have V2 := hid hv2; clear hb2 hv2
  have hrb : a % b < 1000000000 := Nat.lt_trans (Nat.mod_lt a h0) h1
  go_wp2_with fail
  refine (r1_trim _ _ [a % b] (Sm.cons hrb Sm.nil) ?_).mono ?_
  · exact Row.of_blk (b := w2.heap.size) (n := 1) (c := 1) (cs := #[.int .i64 ((a % b : Nat) : Int)]) (Blk.new w2 _ _) rfl (by unfold maxLen; omega) (fun i x hx => by simpa [ints] using hx) (Nat.le_refl _) (by unfold maxLen; omega)
  · rintro e w3 ⟨⟨v3, rfl, hv3⟩, rfl⟩
    have V3 := hid hv3; clear hv3
    go_wp2_with fail
    go_ret2
    have hb3 : Below w2.heap.size w2 (w2.alloc (.cells #[.int .i64 ((a % b : Nat) : Int)] 3)) := (Below.refl _ _).alloc (Nat.le_refl _) _
    refine ⟨⟨_, _, rfl, V2.out.call hb3, ?_⟩, bnext (bnext B1.out B2.out) hb3⟩
    have := V3.out
    rwa [show val [a % b] = a % b by simp [val_cons]] at this
set_option maxRecDepth 100000 in
set_option maxHeartbeats 4000000 in
theorem divide_many (w : World) (v u : Value) (a b m : Nat) (ha : IsN .i64 w v a) (hb : IsN .i64 w u b) (hle : b ≤ a) (hn : (limbs b).length = m) (hm2 : 2 ≤ m) (hla : (limbs a).length ≤ 1000000) :
    Calls Tryz.prog 148 #[v, u] w fun e w' => RetNN .i64 (a / b) (a % b) e w' ∧ Below w.heap.size w w' := by
  have HA := hid ha; have HB := hid hb
  have hord : ordN a b = 0 ∨ ordN a b = 1 := by
    unfold ordN; split
    · omega
    · split <;> simp
  have hmn := limbs_length_mono hle
  obtain ⟨a1, c1, rfl, h1', _⟩ := ha.openI
  obtain ⟨a2, c2, rfl, h2', h3', h4'⟩ := hb.openI
  obtain ⟨x, hx⟩ : ∃ x, (limbs b)[m - 1]? = some x := ⟨_, List.getElem?_eq_getElem (by omega)⟩
  obtain ⟨g, o, rfl, hg, hc⟩ := h4' (m - 1) x hx
  have HC := hid hc
  have hn1 : (limbs b).length = (m - 1) + 1 := by omega
  obtain ⟨s1, s2, s3⟩ := scale_len hn1 hx
  obtain ⟨t1, t2, _⟩ := top_limb hn1 hx
  obtain ⟨d, hd⟩ : ∃ d, 1000000000 / (x + 1) = d := ⟨_, rfl⟩
  rw [hd] at s1 s2 s3
  have HS := hid (show (limbs (b * d)).length = m by omega)
  have hdI := hid (show ((1000000000 : Int) / ((x : Int) + 1)) = (d : Int) from by rw [← hd]; rfl)
  rw [hn] at h2' hmn ⊢
  obtain ⟨L, hL⟩ : ∃ L, (limbs a).length = L := ⟨_, rfl⟩
  rw [hL] at hmn h1' ⊢
  have hla' : L ≤ 1000000 := by omega
  have HL := hid hL; have HN := hid hn; have HLA := hid hla; have HLE := hid hle
  rw [hL] at HA; rw [hn] at HB
  obtain ⟨K, hK⟩ : ∃ K, K = L + 1 - m := ⟨_, rfl⟩
  have hKI := hid (show ((L : Int) + 1 - (m : Int)) = (K : Int) by omega)
  have hKL : K + m = L + 1 := by omega
  have hmk := hid (fun W => make_limbs K (by omega) W)
  clear ha hb hc h4' hx hd s1 hL hn hla hle hn1 hK
  go_enter Tryz.func148, Tryz.ntmps148
  go_wp2_with fail
  refine (r1_Order _ _ _ a b HA.out HB.out).mono ?_; rintro e w1 ⟨rfl, hb1⟩
  have d1 := (hb1.cell (p := ⟨g, o + (m - 1), none⟩) hg).trans HC.out
  have B1 := hid hb1; clear hb1
  obtain ⟨t, ht⟩ : ∃ t, ordN a b = t := ⟨_, rfl⟩
  rw [ht] at hord ⊢
  have q0 : decide (t < 0) = false := by simp; omega
  clear ht hord
  go_wp2_with fail
  rw [hdI.out]
  refine (r1_scaled _ _ a d (HA.out.call B1.out) s3 HLA.out).mono ?_; rintro e w2 ⟨⟨gu, ou, rfl, hgu, hAu, lu, su, vu⟩, hb2⟩
  have B2 := hid (bnext B1.out hb2); have AU := hid hAu; have LU := hid lu; have SU := hid su; have VU := hid vu
  have hul := hAu.lt
  rw [HL.out] at LU ⊢
  clear hAu lu su vu d1
  go_wp2_with fail
  refine (r1_scaled _ _ b d (HB.out.call B2.out) s3 (by rw [HN.out]; omega)).mono ?_; rintro e w3 ⟨⟨gv, ov, rfl, hgv, hAv, lv, sv, vv⟩, hb3⟩
  have B3 := hid (bnext B2.out hb3); have AU3 := hid (AU.out.call hb3)
  have hne : gv ≠ gu := by omega
  have LV := hid lv; have VV := hid vv; have SV := hid sv
  clear lv vv sv
  go_wp2_with fail
  rw [← LV.out]
  refine (r1_trim_at _ _ _ ov SV.out (by have := hAv.row (n := ov.length) (c := ov.length) (Nat.le_refl _) (Nat.le_refl _) (by rw [LV.out, HN.out]; unfold maxLen; omega); rwa [List.take_of_length_le (Nat.le_refl _)] at this)).mono ?_
  rintro e w4 ⟨⟨m', rfl, hm'⟩, rfl⟩
  rw [VV.out] at hm'
  have hmm : m' = m := by have := hm'.len.1; rw [ints_length, HS.out] at this; exact this
  subst hmm
  have RV := hid hm'
  have hvl := hAv.lt
  clear hAv hm' AU
  have y1 := hKI.out; have y2 := hmk.out
  go_wp2_with fail
  clear y1 y2
  have hV := hid (val_limbs (b * d))
  have D0 := hid (show DivI (a * d) (b * d) m' (L + 1) K ou (List.replicate K 0) from by
    have h1 : 1000000000 ^ (m' - 1) ≤ b := limbs_lt_length.1 (by rw [HN.out]; omega)
    have h2 : b * d ≤ 1000000000 ^ m' := Nat.le_of_lt (limbs_length_le.1 (by rw [HS.out]; exact Nat.le_refl _))
    have h3 : a < 1000000000 ^ L := limbs_length_le.1 (by rw [HL.out]; exact Nat.le_refl _)
    have := DivI.start (U := a * d) (V := b * d) (n := m') h2 SU.out LU.out (by omega) VU.out (scaled_top LU.out VU.out h3 (by omega) (by omega) h1 s2)
    rwa [show L + 1 - m' = K by omega] at this)
  go_loopw [13] (fun jj wr => ∃ (k : Nat) (t : Int) (o Q : List Nat), jj = .int .i64 t ∧ t = (k : Int) - 1 ∧ k ≤ K ∧ Hid (DivI (a * d) (b * d) m' (L + 1) k o Q) ∧ Hid (Arr .i64 3 wr gu o) ∧ Hid (Arr .i64 3 wr w3.heap.size Q) ∧ Hid (Row wr (.slice (some ⟨gv, 0, none⟩) m' ov.length) (ints .i64 (limbs (b * d)))) ∧ Hid (Below w.heap.size w wr)) (fun jj _ => (intOf jj + 1).toNat)
  case atStart =>
    have ha : Below w3.heap.size w3 (w3.alloc (.cells (madeCells #[.int .i64 0] K) 3)) := (Below.refl _ _).alloc (Nat.le_refl _) _
    exact ⟨K, _, ou, _, rfl, rfl, Nat.le_refl _, D0, AU3.out.call ha, Arr.made w3 .i64 3 K, RV.out.call ha, bnext B3.out ha⟩
  case round =>
    obtain ⟨k, t, o2, Q, rfl, ht, hk, hD, hU, hQ, hR, hB⟩ := hrel
    have hol := hid hD.out.lo
    have hql := hid (show Q.length = K from by rw [hD.out.lq]; omega)
    cases k with
    | zero =>
      obtain rfl : t = -1 := by omega
      clear ht
      obtain ⟨r1, r2, r3⟩ := hD.out.done (by omega)
      have hfin := hid (div_end (a := a) (b := b) s2 r1 r2)
      have R3 := hid r3
      have hlen : (limbs (val (o2.take m'))).length ≤ 1000000 := by
        rw [r3]
        have := limbs_length_mono (Nat.le_of_lt r2)
        rw [HS.out] at this
        omega
      clear r1 r2 r3
      go_wp2_with fail
      refine (r1_trim _ _ (o2.take m') (hD.out.so.take _) (hU.out.row (by rw [hol.out]; omega) (by omega) (by unfold maxLen; omega))).mono ?_
      rintro e w5 ⟨⟨v5, rfl, hv5⟩, rfl⟩
      go_wp2_with fail
      refine (r1_short _ v5 _ d hv5 s2 s3 hlen).mono ?_
      rintro e w6 ⟨⟨v6, rfl, hv6⟩, hb6⟩
      have V6 := hid hv6; have B6 := hid hb6; have Q6 := hid (hQ.out.call hb6)
      clear hv5 hv6 hb6
      go_wp2_with fail
      refine (r1_trim _ _ Q hD.out.sq (by have := Q6.out.row (n := K) (c := K) (by rw [hql.out]; exact Nat.le_refl _) (Nat.le_refl _) (by unfold maxLen; omega); rwa [List.take_of_length_le (by rw [hql.out]; exact Nat.le_refl _)] at this)).mono ?_
      rintro e w7 ⟨⟨v7, rfl, hv7⟩, rfl⟩
      go_wp2_with fail
      go_ret2
      refine ⟨⟨v7, v6, rfl, by rw [← hfin.out.1]; exact hv7, ?_⟩, bnext hB.out B6.out⟩
      have := V6.out
      rwa [R3.out, hfin.out.2] at this
    | succ j =>
      obtain rfl : t = (j : Int) := by omega
      clear ht
      have hS := hid (show StepIn o2 (limbs (b * d)) j m' from ⟨hm2, by omega, HS.out, by rw [hol.out]; omega, by rw [hol.out]; omega, hD.out.so, sm_limbs _, limbs_top (n := m' - 1) (by rw [HS.out]; omega), by rw [hV.out]; exact hD.out.win (by omega)⟩)
      obtain ⟨z, hz⟩ : ∃ z, Q[j]? = some z := ⟨_, List.getElem?_eq_getElem (by rw [hql.out]; omega)⟩
      have hgq : w3.heap.size ≠ gu := by omega
      have hgw : w.heap.size ≤ gu := Nat.le_trans B1.out.size hgu
      have hqw : w.heap.size ≤ w3.heap.size := B3.out.size
      go_wp2_with fail
      rw [show j + m' + 1 - j = m' + 1 by omega]
      refine (r1_step _ gu j _ o2 gv 0 _ (limbs (b * d)) m' hS.out hU.out hR.out hne).mono ?_
      rintro e w5 ⟨he, o5, hw5, hA5, hg5⟩
      rw [hV.out] at he hw5
      have HN5 := hid (hD.out.next (by omega) hw5)
      obtain ⟨qv, hqv⟩ : ∃ q, val ((o2.drop j).take (m' + 1)) / (b * d) = q := ⟨_, rfl⟩
      rw [hqv] at he HN5
      subst he
      have Q5 := hid (hQ.out.gb hg5 hgq)
      have R5 := hid (hR.out.gb hg5 hne)
      have B5 := hid (below_gb hB.out hB.out.size hg5 hgw)
      have A5 := hid hA5
      have d3 := Q5.out.cell hz
      have d4 := Q5.out.free j
      clear hw5 hA5 hg5 hqv hz
      go_wp2_with fail
      go_roundw
      case rel =>
        have hs : Below w5.heap.size w5 w5 := Below.refl _ _
        have hset : w5.grownBy (w5.setCell ⟨w3.heap.size, j, none⟩ (.int .i64 (qv : Int))) (some w3.heap.size) := gb_set (World.grownBy.refl _ _) _ _
        exact ⟨j, _, o5, _, rfl, rfl, by omega, HN5, A5.out.gb hset (fun e => hgq e.symm), Q5.out.set j qv, R5.out.gb hset (by omega), below_set B5.out hqw _⟩
      case measure => simp [intOf] <;> omega
theorem r1_Divide (w : World) (v u : Value) (a b : Nat) (ha : IsN .i64 w v a) (hb : IsN .i64 w u b) (h0 : 0 < b) (hla : (limbs a).length ≤ 1000000) :
    Calls Tryz.prog 148 #[v, u] w fun e w' => RetNN .i64 (a / b) (a % b) e w' ∧ Below w.heap.size w w' := by
  by_cases hlt : a < b
  · exact divide_less w v u a b ha hb hlt
  · by_cases h1 : b < 1000000000
    · exact divide_one w v u a b ha hb (by omega) h0 h1 hla
    · refine divide_many w v u a b _ ha hb (by omega) rfl ?_ hla
      have : 1 < (limbs b).length := limbs_lt_length.2 (by omega)
      omega
end Go.Proofs.YtpheklgnmbpobaaGreatDoor
