/- Texts that the proof rests on, merged: Er3x, Er4, Fr1, Fr3, Rt1, Mk, Pw1, Pw2, Np, Pl1. -/
import Derived.Test.YtccalhlhdiapiaaGreatDoorKp8
import Derived.Deep.RegionHeld3
import Derived.WalkSmall
namespace Go.Proofs.YtccalhlhdiapiaaGreatDoor
open Go.RowKit Go.Shelf
open Go.Lib (decDigits nDigits)
set_option linter.unusedVariables false
set_option linter.unusedSimpArgs false
set_option maxRecDepth 100000 in
set_option maxHeartbeats 20000000 in
theorem er_tossed (w : World) (m : Bool) (vN vD : Value) (N D n : Nat) (hn : n ≤ 300) (h0 : 0 < N) (hND : N < D) (hN : IsN .i64 w vN N) (hD : IsN .i64 w vD D) (hd : ∀ j, j ≤ n → nDigits (N * 2 ^ j) ≤ 4000) :
    Calls Tryz.prog 118 #[.agg #[.bool m, vN, vD], .int .i64 (n : Nat)] w fun e w' => (∃ u1 u2, e = .returned (.agg #[u1, u2]) ∧ Row w' u1 (bls (oneJ N D) (n + 1)) ∧ Row w' u2 (bls (zeroJ N D) (n + 1))) ∧ Below w.heap.size w w' := by
  obtain ⟨i0, hi, hz0, hz1, hz2⟩ := info_parts info_bool
  obtain ⟨aN, cN, rfl, -, -, -⟩ := hN.openI
  obtain ⟨aD, cD, rfl, -, -, -⟩ := hD.openI
  obtain ⟨lN, hlN⟩ : ∃ l, (limbs N).length = l := ⟨_, rfl⟩
  obtain ⟨lD, hlD⟩ : ∃ l, (limbs D).length = l := ⟨_, rfl⟩
  rw [hlN] at hN ⊢
  rw [hlD] at hD ⊢
  have HT := hid (fun j => ref_toss hND j)
  have HL1 : Hid (∀ j, j ≤ n → (limbs (N * 2 ^ j)).length ≤ 1000000 ∧ (limbs (2 ^ j)).length ≤ 1000000 ∧ (limbs (N * 2 ^ j / D)).length ≤ 1000000) := fun j hj => ⟨num_limbs (hd j hj), num_limbs (Nat.le_trans (nDigits_mono (Nat.le_mul_of_pos_left _ h0)) (hd j hj)), num_limbs (Nat.le_trans (nDigits_mono (Nat.div_le_self _ _)) (hd j hj))⟩
  have HLN : Hid ((limbs N).length ≤ 1000000) := num_limbs (by have := hd 0 (Nat.zero_le _); simpa using this)
  have HD0 : Hid (0 < D) := by show 0 < D; omega
  have S0 : Hid ((sdx N D 0).2 = true ∧ oneJ N D 0 = false ∧ zeroJ N D 0 = false) := ⟨by simp [sdx]; omega, rfl, by simp [zeroJ]; omega⟩
  have H2 := fun V => hid (r1_Read_numF V 2 (Nat.le_trans (nDigits_le (k := 1) (by omega) (by omega)) (by omega)))
  rw [numB_two'] at H2
  have H1 := fun V => hid (read_one V)
  have H0 := fun V => hid (read_zero V)
  have NN := hid hN; have ND := hid hD; have HN := hid hn
  obtain ⟨W1, hW1⟩ : ∃ W, (((((w.alloc (.cells #[.bool m, .slice aN lN cN, .slice aD lD cD] 68)).alloc (.cells #[.slice none 0 0, .slice none 0 0] 132)).alloc (.cells #[.bool false] 4)).alloc (.cells #[.bool false] 4)).alloc (.cells #[.slice (some ⟨w.heap.size + 1 + 1, 0, none⟩) 1 1, .slice (some ⟨w.heap.size + 1 + 1 + 1, 0, none⟩) 1 1] 132)) = W := ⟨_, rfl⟩
  have B1 : Hid (Below w.heap.size w W1) := by
    show Below w.heap.size w W1
    rw [← hW1]
    exact (((((Below.refl _ _).alloc (Nat.le_refl _) _).alloc (by simp) _).alloc (by simp <;> omega) _).alloc (by simp <;> omega) _).alloc (by simp <;> omega) _
  have K0 : Hid (Blk W1 w.heap.size #[.bool m, .slice aN lN cN, .slice aD lD cD] 68) := by
    show Blk _ _ _ _
    rw [← hW1]
    have h := Blk.new w #[.bool m, .slice aN lN cN, .slice aD lD cD] 68
    exact (((h.alloc _).alloc _).alloc _).alloc _
  have K1 : Hid (Blk W1 (w.heap.size + 1) #[.slice none 0 0, .slice none 0 0] 132) := by
    show Blk _ _ _ _
    rw [← hW1]
    have h := Blk.new (w.alloc (.cells #[.bool m, .slice aN lN cN, .slice aD lD cD] 68)) #[.slice none 0 0, .slice none 0 0] 132
    rw [show (w.alloc (.cells #[.bool m, .slice aN lN cN, .slice aD lD cD] 68)).heap.size = w.heap.size + 1 by simp] at h
    exact ((h.alloc _).alloc _).alloc _
  have K2 : Blk W1 (w.heap.size + 1 + 1) #[.bool false] 4 := by
    rw [← hW1]
    have h := Blk.new ((w.alloc (.cells #[.bool m, .slice aN lN cN, .slice aD lD cD] 68)).alloc (.cells #[.slice none 0 0, .slice none 0 0] 132)) #[.bool false] 4
    rw [show ((w.alloc (.cells #[.bool m, .slice aN lN cN, .slice aD lD cD] 68)).alloc (.cells #[.slice none 0 0, .slice none 0 0] 132)).heap.size = w.heap.size + 1 + 1 by simp] at h
    exact (h.alloc _).alloc _
  have K3 : Blk W1 (w.heap.size + 1 + 1 + 1) #[.bool false] 4 := by
    rw [← hW1]
    have h := Blk.new (((w.alloc (.cells #[.bool m, .slice aN lN cN, .slice aD lD cD] 68)).alloc (.cells #[.slice none 0 0, .slice none 0 0] 132)).alloc (.cells #[.bool false] 4)) #[.bool false] 4
    rw [show (((w.alloc (.cells #[.bool m, .slice aN lN cN, .slice aD lD cD] 68)).alloc (.cells #[.slice none 0 0, .slice none 0 0] 132)).alloc (.cells #[.bool false] 4)).heap.size = w.heap.size + 1 + 1 + 1 by simp] at h
    exact h.alloc _
  have K4 : Blk W1 (w.heap.size + 1 + 1 + 1 + 1) #[.slice (some ⟨w.heap.size + 1 + 1, 0, none⟩) 1 1, .slice (some ⟨w.heap.size + 1 + 1 + 1, 0, none⟩) 1 1] 132 := by
    rw [← hW1]
    have h := Blk.new ((((w.alloc (.cells #[.bool m, .slice aN lN cN, .slice aD lD cD] 68)).alloc (.cells #[.slice none 0 0, .slice none 0 0] 132)).alloc (.cells #[.bool false] 4)).alloc (.cells #[.bool false] 4)) #[.slice (some ⟨w.heap.size + 1 + 1, 0, none⟩) 1 1, .slice (some ⟨w.heap.size + 1 + 1 + 1, 0, none⟩) 1 1] 132
    rw [show ((((w.alloc (.cells #[.bool m, .slice aN lN cN, .slice aD lD cD] 68)).alloc (.cells #[.slice none 0 0, .slice none 0 0] 132)).alloc (.cells #[.bool false] 4)).alloc (.cells #[.bool false] 4)).heap.size = w.heap.size + 1 + 1 + 1 + 1 by simp] at h
    exact h
  have T1 : Hid (TsS W1 w.heap.size (w.heap.size + 1 + 1 + 1 + 1) (.slice (some ⟨w.heap.size + 1 + 1, 0, none⟩) 1 1) (.slice (some ⟨w.heap.size + 1 + 1 + 1, 0, none⟩) 1 1) 1 (oneJ N D) (zeroJ N D)) := by
    refine ⟨K4, ⟨rfl, .inr ⟨_, 1, _, rfl, by omega, K2, Nat.le_refl _, by unfold maxLen; omega, rfl, ?_⟩⟩, ⟨rfl, .inr ⟨_, 1, _, rfl, by omega, K3, Nat.le_refl _, by unfold maxLen; omega, rfl, ?_⟩⟩, ?_, ?_, ?_, ?_, ?_⟩
    · show [Value.bool false] = [Value.bool (oneJ N D 0)]
      rw [S0.out.2.1]
    · show [Value.bool false] = [Value.bool (zeroJ N D 0)]
      rw [S0.out.2.2]
    · simp [Value.ownBlock]
    · simp [Value.ownBlock]
    · intro g hg e
      simp [Value.ownBlock] at hg e
      omega
    · intro g hg
      simp [Value.ownBlock] at hg
      omega
    · intro g hg
      simp [Value.ownBlock] at hg
      omega
  clear hN hD hd hn h0 hND K2 K3 K4 hlN hlD
  go_enter Tryz.func118, Tryz.ntmps118
  go_wp2_with fail
  try rw [hW1]
  clear hW1
  obtain ⟨gc, hgc⟩ : ∃ g, w.heap.size + 1 + 1 + 1 + 1 = g := ⟨_, rfl⟩
  rw [hgc] at T1 ⊢
  have HGC : Hid (w.heap.size + 1 < gc) := by show w.heap.size + 1 < gc; omega
  clear hgc
  go_loopw [6, 7] (fun s6 s7 wr => ∃ J v1 v2, s6 = .bool ((sdx N D (J - 1)).2) ∧ s7 = .int .i64 (J : Nat) ∧ 1 ≤ J ∧ J ≤ n + 1 ∧ Hid (TsS wr w.heap.size gc v1 v2 J (oneJ N D) (zeroJ N D)) ∧ Hid (Blk wr w.heap.size #[.bool m, .slice aN lN cN, .slice aD lD cD] 68) ∧ Hid (Blk wr (w.heap.size + 1) #[.slice none 0 0, .slice none 0 0] 132) ∧ Hid (Below w.heap.size w wr)) (fun s6 s7 wr => n + 1 - (intOf s7).toNat)
  case atStart => exact ⟨1, _, _, by rw [S0.out.1], rfl, Nat.le_refl _, by omega, T1, K0, K1, B1⟩
  case round =>
    clear T1 K0 K1 B1
    obtain ⟨J, v1, v2, rfl, rfl, hJ1, hJ2, hT, hK0, hK1, hB⟩ := hrel
    have bNN := NN; have bND := ND
    by_cases hlt : J ≤ n
    · have d0 : decide ((J : Int) ≤ (n : Int)) = true := by simp; omega
      have d0' : decide (J ≤ n) = true := by simp; omega
      obtain ⟨t1, t2, t3⟩ := HT.out (J - 1)
      rw [show J - 1 + 1 = J by omega] at t1 t2 t3
      obtain ⟨l1, l2, l3⟩ := HL1.out J hlt
      have wi : IntKind.i64.wrap ((J : Int) + 1) = ((J + 1 : Nat) : Int) := by have := HN.out; rw [IntWalk.i64_in _ ⟨by omega, by omega⟩]; omega
      have JL := hid hlt; have J1 := hid hJ1
      obtain ⟨o, ho⟩ : ∃ b, (sdx N D (J - 1)).2 = b := ⟨_, rfl⟩
      rw [ho] at t1 t2 t3 ⊢
      have KB : Hid (∀ W, Below wr.heap.size wr W → W.cell? ⟨w.heap.size, 1, none⟩ = some (.slice aN lN cN) ∧ W.cell? ⟨w.heap.size, 2, none⟩ = some (.slice aD lD cD)) := fun W hW => ⟨(hK0.out.call hW).cell 1, (hK0.out.call hW).cell 2⟩
      have RN := hid (NN.out.call hB.out); have RD := hid (ND.out.call hB.out)
      have L1 := hid l1; have L2 := hid l2; have L3 := hid l3
      have HT1 := hid t1; have HT2 := hid t2; have HT3 := hid t3
      clear hlt hJ1 hJ2 ho t1 t2 t3 l1 l2 l3
      go_wp2_with fail
      refine held_plain [0, 1, 2, 5, 6] 8 (fun W' => W'.cell? ⟨w.heap.size, 1, none⟩ = some (.slice aN lN cN) ∧ W'.cell? ⟨w.heap.size, 2, none⟩ = some (.slice aD lD cD)) (by kernel_rfl) (by kernel_rfl) (by kernel_rfl) (by kernel_rfl) (KB.out _ (Below.refl _ _).drew) ?_
      iterate 5
        refine ⟨_, rfl, ?_⟩
        apply Exists.intro
        refine ⟨.inl ⟨by rfl, ?_⟩, ?_⟩
        · (intro W' hW'; obtain ⟨r1, r2⟩ := hW'; go_simp; try (with_reducible rfl))
        (dsimp only [Act.put]; try simp only [List.setIfInBounds_toArray, List.set_cons_zero, List.set_cons_succ])
      refine held_one (i := 3) (by kernel_rfl) (by rfl) (by rfl) ?_
      go_wp2_with fail
      refine (r3_Two _ J (by have := JL.out; have := HN.out; omega)).mono ?_; rintro e wa ⟨⟨vt, rfl, hvt⟩, hba⟩
      have A1 := hid (show Below wr.heap.size wr wa from (Below.refl _ _).drew.trans hba); have VT := hid hvt
      clear hba hvt
      go_wp2_with fail
      refine ⟨KB.out _ A1.out, ?_⟩
      refine held_one (i := 4) (by kernel_rfl) (by rfl) (by rfl) ?_
      go_wp2_with fail
      refine (r1_Times _ _ _ _ _ (RN.out.call A1.out) VT.out HLN.out L2.out).mono ?_; rintro e wb ⟨⟨vp, rfl, hvp⟩, hbb⟩
      have A2 := hid (bnext A1.out hbb); have VP := hid hvp
      clear hbb hvp VT
      go_wp2_with fail
      refine ⟨KB.out _ A2.out, ?_⟩
      refine held_one (i := 7) (by kernel_rfl) (by rfl) (by rfl) ?_
      go_wp2_with fail
      refine (r1_Divide _ _ _ _ _ VP.out (RD.out.call A2.out) HD0.out L1.out).mono ?_; rintro e wc ⟨⟨vk, vr, rfl, hvk, hvr⟩, hbc⟩
      have A3 := hid (bnext A2.out hbc); have VK := hid hvk; have VR := hid hvr
      clear hbc hvk hvr VP
      go_wp2_with fail
      refine ⟨KB.out _ A3.out, ?_⟩
      refine held_more (is := [8, 9, 10, 11, 12]) (g := 0) (by kernel_rfl) rfl (KB.out _ A3.out) (by kernel_rfl) ?_
      iterate 5
        refine ⟨_, rfl, ?_⟩
        apply Exists.intro
        refine ⟨.inl ⟨by rfl, ?_⟩, ?_⟩
        · (intro W' hW'; obtain ⟨r1, r2⟩ := hW'; go_simp; try (with_reducible rfl))
        (dsimp only [Act.put]; try simp only [List.setIfInBounds_toArray, List.set_cons_zero, List.set_cons_succ])
      refine wpAnyH_done (by kernel_rfl) ?_ _
      simp only [Only]
      go_wp2_with fail
      refine (H2 _).out.mono ?_; rintro e wd ⟨⟨v2', rfl, hv2, -⟩, hbd⟩
      have A4 := hid (bnext A3.out hbd); have VK4 := hid (VK.out.call hbd); have VR4 := hid (VR.out.call hbd); have V2 := hid hv2
      clear hbd hv2
      go_wp2_with fail
      refine (r1_Divide _ _ _ _ _ VK4.out V2.out (by omega) L3.out).mono ?_; rintro e we ⟨⟨vq, vo, rfl, -, hvo⟩, hbe⟩
      have A5 := hid (bnext A4.out hbe); have VR5 := hid (VR4.out.call hbe); have VO := hid hvo
      clear hbe hvo
      go_wp2_with fail
      refine (H1 _).out.mono ?_; rintro e wf ⟨⟨v1', rfl, hv1, -⟩, hbf⟩
      have A6 := hid (bnext A5.out hbf); have VR6 := hid (VR5.out.call hbf); have VO6 := hid (VO.out.call hbf); have V1 := hid hv1
      clear hbf hv1
      have oa := ord_one (N * 2 ^ J / D)
      obtain ⟨ab, hab⟩ : ∃ b, decide (N * 2 ^ J / D % 2 = 1) = b := ⟨_, rfl⟩
      rw [hab] at oa
      have HAB := hid hab
      clear hab
      go_wp2_with fail
      refine (r1_Order _ _ _ _ _ VO6.out V1.out).mono ?_; rintro e wg ⟨rfl, hbg⟩
      have A7 := hid (bnext A6.out hbg); have VR7 := hid (VR6.out.call hbg)
      clear hbg VO VO6 V1 V2
      obtain ⟨za, hza⟩ : ∃ z, ordN (N * 2 ^ J / D % 2) 1 = z := ⟨_, rfl⟩
      rw [hza] at oa ⊢
      clear hza
      cases ab
      · have E1 : Hid (oneJ N D J = false ∧ zeroJ N D J = o ∧ (sdx N D J).2 = o) := by
          refine ⟨?_, ?_, ?_⟩
          · rw [HT1.out, HAB.out]; cases o <;> rfl
          · rw [HT2.out, HAB.out]; cases o <;> rfl
          · rw [HT3.out, HAB.out]; cases o <;> rfl
        go_wp2_with fail
        cases o
        · obtain ⟨x1, x2, x3⟩ := E1.out
          have KC : Hid (∀ W, Below wr.heap.size wr W → W.cell? ⟨gc, 0, none⟩ = some v1 ∧ W.cell? ⟨gc, 1, none⟩ = some v2) := fun W hW => ⟨(hT.out.call hW).blk.cell 0, (hT.out.call hW).blk.cell 1⟩
          have TA := hid (hT.out.call A7.out)
          have jn := JL.out
          have hn9 := HN.out
          have hgc9 := HGC.out
          have K0A := hid (hK0.out.call A7.out); have K1A := hid (hK1.out.call A7.out); have BA := hid (hB.out.trans (A7.out.mono hB.out.size))
          refine held_lasts3 21 3 [] [(18, 19), (17, 18), (16, 17), (11, 17), (15, 16), (14, 16), (13, 14), (12, 13), (10, 11)] [0, 1, 2, 3, 4, 5, 8, 9, 10] 12 (fun W' => W'.cell? ⟨gc, 0, none⟩ = some v1 ∧ W'.cell? ⟨gc, 1, none⟩ = some v2) (by kernel_rfl) (by kernel_rfl) (by kernel_rfl) (by kernel_rfl) (by kernel_rfl) (by kernel_rfl) (by kernel_rfl) (by kernel_rfl) (by kernel_rfl) (by kernel_rfl) (by kernel_rfl) (by kernel_rfl) (KC.out _ A7.out.drew) ?_
          show wpPick _ _ _ _ _ _
          iterate 9
            refine ⟨_, rfl, ?_⟩
            apply Exists.intro
            first
              | (refine ⟨.inl ⟨by rfl, ?_⟩, ?_⟩
                 · (intro W' hW'; obtain ⟨r1, r2⟩ := hW'; go_simp; try (with_reducible rfl)))
              | refine ⟨.inr ⟨by rfl, rfl⟩, ?_⟩
            (dsimp only [Act.put]; try simp only [List.setIfInBounds_toArray, List.set_cons_zero, List.set_cons_succ])
          refine held_one (i := 6) (by kernel_rfl) (by rfl) (by rfl) ?_
          go_wp2_with fail
          have D1 := hid (show Below wg.heap.size wg (wg.alloc (.cells #[.bool false] 4)).drew from ((Below.refl _ _).alloc (Nat.le_refl _) _).drew)
          refine ⟨KC.out _ (bnext A7.out D1.out), ?_⟩
          refine held_one (i := 7) (by kernel_rfl) (by rfl) (by rfl) ?_
          refine wpList_append_own_at _ rfl _ _ 111 rfl w.heap.size 4 i0 (.bool false) 1 1 Tryz.underlying111 hi hz0 hz1 hz2 rfl (by decide) v1 J (bls (oneJ N D) J) rfl (TA.out.o1.alloc (.cells #[.bool false] 4)) ⟨wg.heap.size, 0, none⟩ 1 1 [.bool false] rfl rfl (cell_one_new wg (.bool false) 4) (by simp [Value.oneCell']) (by unfold maxLen; omega) (by omega) (by have := BA.out.size; simp; omega) ?_
          intro v1' w5 hown1 hgrow1 _ hat1
          have hat1' : v1'.ownBlock = v1.ownBlock ∨ v1'.ownBlock = some (wg.heap.size + 1) := by simpa using hat1
          have hgrow1' : (wg.alloc (.cells #[.bool false] 4)).grownBy w5 v1.ownBlock := ⟨hgrow1.os, hgrow1.tape, hgrow1.output, hgrow1.size, hgrow1.block⟩
          have G1 := hid hgrow1'; have OW1 := hid hown1; have AT1 := hid hat1'
          obtain ⟨p1, q1, rfl, -, -⟩ := hown1.form (Nat.succ_pos J)
          clear hown1 hgrow1 hgrow1' hat1 hat1'
          have Bk5 : Hid (Blk w5 gc #[v1, v2] 132) := Blk.grown (TA.out.blk.alloc _) G1.out TA.out.n1
          have Bb5 : Hid (Blk w5 w.heap.size #[.bool m, .slice aN lN cN, .slice aD lD cD] 68) := Blk.grown (K0A.out.alloc _) G1.out (fun e => by have := TA.out.b1 _ e; omega)
          have Br5 : Hid (Blk w5 (w.heap.size + 1) #[.slice none 0 0, .slice none 0 0] 132) := Blk.grown (K1A.out.alloc _) G1.out (fun e => by have := TA.out.b1 _ e; omega)
          have Be5 : Hid (Below w.heap.size w w5) := by
            have h1 : Below w.heap.size w (wg.alloc (.cells #[.bool false] 4)) := BA.out.alloc BA.out.size _
            exact h1.trans ⟨G1.out.os, G1.out.tape, G1.out.output, G1.out.size, fun i hi => G1.out.block i (by have := h1.size; omega) (fun e => by have := TA.out.b1 _ e.symm; omega)⟩
          have o25 : w5.ownsRow w.heap.size 4 1 v2 J (bls (zeroJ N D) J) := (TA.out.o2.alloc (.cells #[.bool false] 4)).kept G1.out (by
            cases hv : v2.ownBlock with
            | none => exact .inl rfl
            | some g => exact .inr fun e => TA.out.n12 g e.symm hv)
          have O25 := hid o25
          clear o25
          go_wp2_with fail
          refine ⟨⟨Bk5.out.cell 0, Bk5.out.cell 1⟩, ?_⟩
          refine held_more (is := [11, 12, 13, 14, 15, 16, 17, 20]) (g := 2) (by kernel_rfl) rfl ⟨Bk5.out.cell 0, Bk5.out.cell 1⟩ (by kernel_rfl) ?_
          iterate 8
            refine ⟨_, rfl, ?_⟩
            apply Exists.intro
            first
              | (refine ⟨.inl ⟨by rfl, ?_⟩, ?_⟩
                 · (intro W' hW'; obtain ⟨r1, r2⟩ := hW'; go_simp; try (with_reducible rfl)))
              | refine ⟨.inr ⟨by rfl, rfl⟩, ?_⟩
            (dsimp only [Act.put]; try simp only [List.setIfInBounds_toArray, List.set_cons_zero, List.set_cons_succ])
          refine held_one (i := 18) (by kernel_rfl) (by rfl) (by rfl) ?_
          go_wp2_with fail
          refine ⟨⟨(Bk5.out.alloc _).cell 0, (Bk5.out.alloc _).cell 1⟩, ?_⟩
          refine held_one (i := 19) (by kernel_rfl) (by rfl) (by rfl) ?_
          refine wpList_append_own_at _ rfl _ _ 111 rfl w.heap.size 4 i0 (.bool false) 1 1 Tryz.underlying111 hi hz0 hz1 hz2 rfl (by decide) v2 J (bls (zeroJ N D) J) rfl (O25.out.alloc (.cells #[.bool false] 4)) ⟨w5.heap.size, 0, none⟩ 1 1 [.bool false] rfl rfl (cell_one_new w5 (.bool false) 4) (by simp [Value.oneCell']) (by unfold maxLen; omega) (by omega) (by have := Be5.out.size; simp; omega) ?_
          intro v2' w6 hown2 hgrow2 _ hat2
          have hat2' : v2'.ownBlock = v2.ownBlock ∨ v2'.ownBlock = some (w5.heap.size + 1) := by simpa using hat2
          have G2 := hid hgrow2; have OW2 := hid hown2; have AT2 := hid hat2'
          obtain ⟨p2, q2, rfl, -, -⟩ := hown2.form (Nat.succ_pos J)
          clear hown2 hgrow2 hat2 hat2'
          have Bk6 : Hid (Blk w6 gc #[v1, v2] 132) := Blk.grown (Bk5.out.alloc _) G2.out TA.out.n2
          have Bb6 : Hid (Blk w6 w.heap.size #[.bool m, .slice aN lN cN, .slice aD lD cD] 68) := Blk.grown (Bb5.out.alloc _) G2.out (fun e => by have := TA.out.b2 _ e; omega)
          have Br6 : Hid (Blk w6 (w.heap.size + 1) #[.slice none 0 0, .slice none 0 0] 132) := Blk.grown (Br5.out.alloc _) G2.out (fun e => by have := TA.out.b2 _ e; omega)
          have Be6 : Hid (Below w.heap.size w w6) := by
            have h1 : Below w.heap.size w (w5.alloc (.cells #[.bool false] 4)) := Be5.out.alloc Be5.out.size _
            exact h1.trans ⟨G2.out.os, G2.out.tape, G2.out.output, G2.out.size, fun i hi => G2.out.block i (by have := h1.size; omega) (fun e => by have := TA.out.b2 _ e.symm; omega)⟩
          go_wp2_with fail
          refine ⟨⟨Bk6.out.cell 0, Bk6.out.cell 1⟩, ?_⟩
          refine wpAnyH_done (by kernel_rfl) ?_ _
          simp only [Only, ThenL, List.drop_succ_cons, List.drop_zero]
          have TN := hid (ts_next TA.out HGC.out x1 x2 OW1.out G1.out AT1.out OW2.out G2.out AT2.out)
          have c0 := Bk6.out.cell 0
          have f0 := Bk6.out.free 0
          have Bk7 := Bk6.out.set 0 (.slice (some ⟨p1, 0, none⟩) (J + 1) q1)
          have c1 := Bk7.cell 1
          have f1 := Bk7.free 1
          simp at c0 c1
          have B7 := hid ((Be6.out.setCell (p := ⟨gc, 0, none⟩) (by simp; omega) (.slice (some ⟨p1, 0, none⟩) (J + 1) q1)).setCell (p := ⟨gc, 1, none⟩) (by simp; omega) (.slice (some ⟨p2, 0, none⟩) (J + 1) q2))
          have Bb7 := hid ((Bb6.out.other (a := ⟨gc, 0, none⟩) (by simp; omega) (.slice (some ⟨p1, 0, none⟩) (J + 1) q1)).other (a := ⟨gc, 1, none⟩) (by simp; omega) (.slice (some ⟨p2, 0, none⟩) (J + 1) q2))
          have Br7 := hid ((Br6.out.other (a := ⟨gc, 0, none⟩) (by simp; omega) (.slice (some ⟨p1, 0, none⟩) (J + 1) q1)).other (a := ⟨gc, 1, none⟩) (by simp; omega) (.slice (some ⟨p2, 0, none⟩) (J + 1) q2))
          clear Bk7
          go_wp2_with fail
          simp only [Only]
          go_wp2_with fail
          go_roundw
          case rel => exact ⟨J + 1, _, _, by rw [Nat.add_sub_cancel, x3], by go_num, by omega, by omega, TN, Bb7, Br7, B7⟩
          case measure => simp [intOf] <;> omega
        · obtain ⟨x1, x2, x3⟩ := E1.out
          have KC : Hid (∀ W, Below wr.heap.size wr W → W.cell? ⟨gc, 0, none⟩ = some v1 ∧ W.cell? ⟨gc, 1, none⟩ = some v2) := fun W hW => ⟨(hT.out.call hW).blk.cell 0, (hT.out.call hW).blk.cell 1⟩
          have TA := hid (hT.out.call A7.out)
          have jn := JL.out
          have hn9 := HN.out
          have hgc9 := HGC.out
          have K0A := hid (hK0.out.call A7.out); have K1A := hid (hK1.out.call A7.out); have BA := hid (hB.out.trans (A7.out.mono hB.out.size))
          refine held_lasts3 21 3 [] [(18, 19), (17, 18), (16, 17), (11, 17), (15, 16), (14, 16), (13, 14), (12, 13), (10, 11)] [0, 1, 2, 3, 4, 5, 8, 9, 10] 12 (fun W' => W'.cell? ⟨gc, 0, none⟩ = some v1 ∧ W'.cell? ⟨gc, 1, none⟩ = some v2) (by kernel_rfl) (by kernel_rfl) (by kernel_rfl) (by kernel_rfl) (by kernel_rfl) (by kernel_rfl) (by kernel_rfl) (by kernel_rfl) (by kernel_rfl) (by kernel_rfl) (by kernel_rfl) (by kernel_rfl) (KC.out _ A7.out.drew) ?_
          show wpPick _ _ _ _ _ _
          iterate 9
            refine ⟨_, rfl, ?_⟩
            apply Exists.intro
            first
              | (refine ⟨.inl ⟨by rfl, ?_⟩, ?_⟩
                 · (intro W' hW'; obtain ⟨r1, r2⟩ := hW'; go_simp; try (with_reducible rfl)))
              | refine ⟨.inr ⟨by rfl, rfl⟩, ?_⟩
            (dsimp only [Act.put]; try simp only [List.setIfInBounds_toArray, List.set_cons_zero, List.set_cons_succ])
          refine held_one (i := 6) (by kernel_rfl) (by rfl) (by rfl) ?_
          go_wp2_with fail
          have D1 := hid (show Below wg.heap.size wg (wg.alloc (.cells #[.bool false] 4)).drew from ((Below.refl _ _).alloc (Nat.le_refl _) _).drew)
          refine ⟨KC.out _ (bnext A7.out D1.out), ?_⟩
          refine held_one (i := 7) (by kernel_rfl) (by rfl) (by rfl) ?_
          refine wpList_append_own_at _ rfl _ _ 111 rfl w.heap.size 4 i0 (.bool false) 1 1 Tryz.underlying111 hi hz0 hz1 hz2 rfl (by decide) v1 J (bls (oneJ N D) J) rfl (TA.out.o1.alloc (.cells #[.bool false] 4)) ⟨wg.heap.size, 0, none⟩ 1 1 [.bool false] rfl rfl (cell_one_new wg (.bool false) 4) (by simp [Value.oneCell']) (by unfold maxLen; omega) (by omega) (by have := BA.out.size; simp; omega) ?_
          intro v1' w5 hown1 hgrow1 _ hat1
          have hat1' : v1'.ownBlock = v1.ownBlock ∨ v1'.ownBlock = some (wg.heap.size + 1) := by simpa using hat1
          have hgrow1' : (wg.alloc (.cells #[.bool false] 4)).grownBy w5 v1.ownBlock := ⟨hgrow1.os, hgrow1.tape, hgrow1.output, hgrow1.size, hgrow1.block⟩
          have G1 := hid hgrow1'; have OW1 := hid hown1; have AT1 := hid hat1'
          obtain ⟨p1, q1, rfl, -, -⟩ := hown1.form (Nat.succ_pos J)
          clear hown1 hgrow1 hgrow1' hat1 hat1'
          have Bk5 : Hid (Blk w5 gc #[v1, v2] 132) := Blk.grown (TA.out.blk.alloc _) G1.out TA.out.n1
          have Bb5 : Hid (Blk w5 w.heap.size #[.bool m, .slice aN lN cN, .slice aD lD cD] 68) := Blk.grown (K0A.out.alloc _) G1.out (fun e => by have := TA.out.b1 _ e; omega)
          have Br5 : Hid (Blk w5 (w.heap.size + 1) #[.slice none 0 0, .slice none 0 0] 132) := Blk.grown (K1A.out.alloc _) G1.out (fun e => by have := TA.out.b1 _ e; omega)
          have Be5 : Hid (Below w.heap.size w w5) := by
            have h1 : Below w.heap.size w (wg.alloc (.cells #[.bool false] 4)) := BA.out.alloc BA.out.size _
            exact h1.trans ⟨G1.out.os, G1.out.tape, G1.out.output, G1.out.size, fun i hi => G1.out.block i (by have := h1.size; omega) (fun e => by have := TA.out.b1 _ e.symm; omega)⟩
          have o25 : w5.ownsRow w.heap.size 4 1 v2 J (bls (zeroJ N D) J) := (TA.out.o2.alloc (.cells #[.bool false] 4)).kept G1.out (by
            cases hv : v2.ownBlock with
            | none => exact .inl rfl
            | some g => exact .inr fun e => TA.out.n12 g e.symm hv)
          have O25 := hid o25
          clear o25
          go_wp2_with fail
          refine ⟨⟨Bk5.out.cell 0, Bk5.out.cell 1⟩, ?_⟩
          refine held_more (is := [11, 12, 13, 14, 15, 16, 17, 20]) (g := 2) (by kernel_rfl) rfl ⟨Bk5.out.cell 0, Bk5.out.cell 1⟩ (by kernel_rfl) ?_
          iterate 8
            refine ⟨_, rfl, ?_⟩
            apply Exists.intro
            first
              | (refine ⟨.inl ⟨by rfl, ?_⟩, ?_⟩
                 · (intro W' hW'; obtain ⟨r1, r2⟩ := hW'; go_simp; try (with_reducible rfl)))
              | refine ⟨.inr ⟨by rfl, rfl⟩, ?_⟩
            (dsimp only [Act.put]; try simp only [List.setIfInBounds_toArray, List.set_cons_zero, List.set_cons_succ])
          refine held_one (i := 18) (by kernel_rfl) (by rfl) (by rfl) ?_
          go_wp2_with fail
          refine ⟨⟨(Bk5.out.alloc _).cell 0, (Bk5.out.alloc _).cell 1⟩, ?_⟩
          refine held_one (i := 19) (by kernel_rfl) (by rfl) (by rfl) ?_
          refine wpList_append_own_at _ rfl _ _ 111 rfl w.heap.size 4 i0 (.bool false) 1 1 Tryz.underlying111 hi hz0 hz1 hz2 rfl (by decide) v2 J (bls (zeroJ N D) J) rfl (O25.out.alloc (.cells #[.bool true] 4)) ⟨w5.heap.size, 0, none⟩ 1 1 [.bool true] rfl rfl (cell_one_new w5 (.bool true) 4) (by simp [Value.oneCell']) (by unfold maxLen; omega) (by omega) (by have := Be5.out.size; simp; omega) ?_
          intro v2' w6 hown2 hgrow2 _ hat2
          have hat2' : v2'.ownBlock = v2.ownBlock ∨ v2'.ownBlock = some (w5.heap.size + 1) := by simpa using hat2
          have G2 := hid hgrow2; have OW2 := hid hown2; have AT2 := hid hat2'
          obtain ⟨p2, q2, rfl, -, -⟩ := hown2.form (Nat.succ_pos J)
          clear hown2 hgrow2 hat2 hat2'
          have Bk6 : Hid (Blk w6 gc #[v1, v2] 132) := Blk.grown (Bk5.out.alloc _) G2.out TA.out.n2
          have Bb6 : Hid (Blk w6 w.heap.size #[.bool m, .slice aN lN cN, .slice aD lD cD] 68) := Blk.grown (Bb5.out.alloc _) G2.out (fun e => by have := TA.out.b2 _ e; omega)
          have Br6 : Hid (Blk w6 (w.heap.size + 1) #[.slice none 0 0, .slice none 0 0] 132) := Blk.grown (Br5.out.alloc _) G2.out (fun e => by have := TA.out.b2 _ e; omega)
          have Be6 : Hid (Below w.heap.size w w6) := by
            have h1 : Below w.heap.size w (w5.alloc (.cells #[.bool true] 4)) := Be5.out.alloc Be5.out.size _
            exact h1.trans ⟨G2.out.os, G2.out.tape, G2.out.output, G2.out.size, fun i hi => G2.out.block i (by have := h1.size; omega) (fun e => by have := TA.out.b2 _ e.symm; omega)⟩
          go_wp2_with fail
          refine ⟨⟨Bk6.out.cell 0, Bk6.out.cell 1⟩, ?_⟩
          refine wpAnyH_done (by kernel_rfl) ?_ _
          simp only [Only, ThenL, List.drop_succ_cons, List.drop_zero]
          have TN := hid (ts_next TA.out HGC.out x1 x2 OW1.out G1.out AT1.out OW2.out G2.out AT2.out)
          have c0 := Bk6.out.cell 0
          have f0 := Bk6.out.free 0
          have Bk7 := Bk6.out.set 0 (.slice (some ⟨p1, 0, none⟩) (J + 1) q1)
          have c1 := Bk7.cell 1
          have f1 := Bk7.free 1
          simp at c0 c1
          have B7 := hid ((Be6.out.setCell (p := ⟨gc, 0, none⟩) (by simp; omega) (.slice (some ⟨p1, 0, none⟩) (J + 1) q1)).setCell (p := ⟨gc, 1, none⟩) (by simp; omega) (.slice (some ⟨p2, 0, none⟩) (J + 1) q2))
          have Bb7 := hid ((Bb6.out.other (a := ⟨gc, 0, none⟩) (by simp; omega) (.slice (some ⟨p1, 0, none⟩) (J + 1) q1)).other (a := ⟨gc, 1, none⟩) (by simp; omega) (.slice (some ⟨p2, 0, none⟩) (J + 1) q2))
          have Br7 := hid ((Br6.out.other (a := ⟨gc, 0, none⟩) (by simp; omega) (.slice (some ⟨p1, 0, none⟩) (J + 1) q1)).other (a := ⟨gc, 1, none⟩) (by simp; omega) (.slice (some ⟨p2, 0, none⟩) (J + 1) q2))
          clear Bk7
          go_wp2_with fail
          simp only [Only]
          go_wp2_with fail
          go_roundw
          case rel => exact ⟨J + 1, _, _, by rw [Nat.add_sub_cancel, x3], by go_num, by omega, by omega, TN, Bb7, Br7, B7⟩
          case measure => simp [intOf] <;> omega
      · have oz := ord_nil (N * 2 ^ J % D)
        obtain ⟨eq0, heq⟩ : ∃ b, decide (N * 2 ^ J % D = 0) = b := ⟨_, rfl⟩
        rw [heq] at oz
        have HEQ := hid heq
        clear heq
        go_wp2_with fail
        refine (H0 _).out.mono ?_; rintro e wh ⟨⟨v0', rfl, hv0, -⟩, hbh⟩
        have A8 := hid (bnext A7.out hbh); have VR8 := hid (VR7.out.call hbh); have V0 := hid hv0
        clear hbh hv0
        go_wp2_with fail
        refine (r1_Order _ _ _ _ _ VR8.out V0.out).mono ?_; rintro e wi' ⟨rfl, hbi⟩
        have A9 := hid (bnext A8.out hbi)
        clear hbi V0 VR8
        obtain ⟨zb, hzb⟩ : ∃ z, ordN (N * 2 ^ J % D) 0 = z := ⟨_, rfl⟩
        rw [hzb] at oz ⊢
        clear hzb
        cases eq0
        · have E1 : Hid (oneJ N D J = o ∧ zeroJ N D J = false ∧ (sdx N D J).2 = o) := by
            refine ⟨?_, ?_, ?_⟩
            · rw [HT1.out, HAB.out]; cases o <;> rfl
            · rw [HT2.out, HAB.out, HEQ.out]; cases o <;> rfl
            · rw [HT3.out, HAB.out, HEQ.out]; cases o <;> rfl
          go_wp2_with fail
          cases o
          · obtain ⟨x1, x2, x3⟩ := E1.out
            have KC : Hid (∀ W, Below wr.heap.size wr W → W.cell? ⟨gc, 0, none⟩ = some v1 ∧ W.cell? ⟨gc, 1, none⟩ = some v2) := fun W hW => ⟨(hT.out.call hW).blk.cell 0, (hT.out.call hW).blk.cell 1⟩
            have TA := hid (hT.out.call A9.out)
            have jn := JL.out
            have hn9 := HN.out
            have hgc9 := HGC.out
            have K0A := hid (hK0.out.call A9.out); have K1A := hid (hK1.out.call A9.out); have BA := hid (hB.out.trans (A9.out.mono hB.out.size))
            refine held_lasts3 21 3 [] [(18, 19), (17, 18), (16, 17), (11, 17), (15, 16), (14, 16), (13, 14), (12, 13), (10, 11)] [0, 1, 2, 3, 4, 5, 8, 9, 10] 12 (fun W' => W'.cell? ⟨gc, 0, none⟩ = some v1 ∧ W'.cell? ⟨gc, 1, none⟩ = some v2) (by kernel_rfl) (by kernel_rfl) (by kernel_rfl) (by kernel_rfl) (by kernel_rfl) (by kernel_rfl) (by kernel_rfl) (by kernel_rfl) (by kernel_rfl) (by kernel_rfl) (by kernel_rfl) (by kernel_rfl) (KC.out _ A9.out.drew) ?_
            show wpPick _ _ _ _ _ _
            iterate 9
              refine ⟨_, rfl, ?_⟩
              apply Exists.intro
              first
                | (refine ⟨.inl ⟨by rfl, ?_⟩, ?_⟩
                   · (intro W' hW'; obtain ⟨r1, r2⟩ := hW'; go_simp; try (with_reducible rfl)))
                | refine ⟨.inr ⟨by rfl, rfl⟩, ?_⟩
              (dsimp only [Act.put]; try simp only [List.setIfInBounds_toArray, List.set_cons_zero, List.set_cons_succ])
            refine held_one (i := 6) (by kernel_rfl) (by rfl) (by rfl) ?_
            go_wp2_with fail
            have D1 := hid (show Below wi'.heap.size wi' (wi'.alloc (.cells #[.bool false] 4)).drew from ((Below.refl _ _).alloc (Nat.le_refl _) _).drew)
            refine ⟨KC.out _ (bnext A9.out D1.out), ?_⟩
            refine held_one (i := 7) (by kernel_rfl) (by rfl) (by rfl) ?_
            refine wpList_append_own_at _ rfl _ _ 111 rfl w.heap.size 4 i0 (.bool false) 1 1 Tryz.underlying111 hi hz0 hz1 hz2 rfl (by decide) v1 J (bls (oneJ N D) J) rfl (TA.out.o1.alloc (.cells #[.bool false] 4)) ⟨wi'.heap.size, 0, none⟩ 1 1 [.bool false] rfl rfl (cell_one_new wi' (.bool false) 4) (by simp [Value.oneCell']) (by unfold maxLen; omega) (by omega) (by have := BA.out.size; simp; omega) ?_
            intro v1' w5 hown1 hgrow1 _ hat1
            have hat1' : v1'.ownBlock = v1.ownBlock ∨ v1'.ownBlock = some (wi'.heap.size + 1) := by simpa using hat1
            have hgrow1' : (wi'.alloc (.cells #[.bool false] 4)).grownBy w5 v1.ownBlock := ⟨hgrow1.os, hgrow1.tape, hgrow1.output, hgrow1.size, hgrow1.block⟩
            have G1 := hid hgrow1'; have OW1 := hid hown1; have AT1 := hid hat1'
            obtain ⟨p1, q1, rfl, -, -⟩ := hown1.form (Nat.succ_pos J)
            clear hown1 hgrow1 hgrow1' hat1 hat1'
            have Bk5 : Hid (Blk w5 gc #[v1, v2] 132) := Blk.grown (TA.out.blk.alloc _) G1.out TA.out.n1
            have Bb5 : Hid (Blk w5 w.heap.size #[.bool m, .slice aN lN cN, .slice aD lD cD] 68) := Blk.grown (K0A.out.alloc _) G1.out (fun e => by have := TA.out.b1 _ e; omega)
            have Br5 : Hid (Blk w5 (w.heap.size + 1) #[.slice none 0 0, .slice none 0 0] 132) := Blk.grown (K1A.out.alloc _) G1.out (fun e => by have := TA.out.b1 _ e; omega)
            have Be5 : Hid (Below w.heap.size w w5) := by
              have h1 : Below w.heap.size w (wi'.alloc (.cells #[.bool false] 4)) := BA.out.alloc BA.out.size _
              exact h1.trans ⟨G1.out.os, G1.out.tape, G1.out.output, G1.out.size, fun i hi => G1.out.block i (by have := h1.size; omega) (fun e => by have := TA.out.b1 _ e.symm; omega)⟩
            have o25 : w5.ownsRow w.heap.size 4 1 v2 J (bls (zeroJ N D) J) := (TA.out.o2.alloc (.cells #[.bool false] 4)).kept G1.out (by
              cases hv : v2.ownBlock with
              | none => exact .inl rfl
              | some g => exact .inr fun e => TA.out.n12 g e.symm hv)
            have O25 := hid o25
            clear o25
            go_wp2_with fail
            refine ⟨⟨Bk5.out.cell 0, Bk5.out.cell 1⟩, ?_⟩
            refine held_more (is := [11, 12, 13, 14, 15, 16, 17, 20]) (g := 2) (by kernel_rfl) rfl ⟨Bk5.out.cell 0, Bk5.out.cell 1⟩ (by kernel_rfl) ?_
            iterate 8
              refine ⟨_, rfl, ?_⟩
              apply Exists.intro
              first
                | (refine ⟨.inl ⟨by rfl, ?_⟩, ?_⟩
                   · (intro W' hW'; obtain ⟨r1, r2⟩ := hW'; go_simp; try (with_reducible rfl)))
                | refine ⟨.inr ⟨by rfl, rfl⟩, ?_⟩
              (dsimp only [Act.put]; try simp only [List.setIfInBounds_toArray, List.set_cons_zero, List.set_cons_succ])
            refine held_one (i := 18) (by kernel_rfl) (by rfl) (by rfl) ?_
            go_wp2_with fail
            refine ⟨⟨(Bk5.out.alloc _).cell 0, (Bk5.out.alloc _).cell 1⟩, ?_⟩
            refine held_one (i := 19) (by kernel_rfl) (by rfl) (by rfl) ?_
            refine wpList_append_own_at _ rfl _ _ 111 rfl w.heap.size 4 i0 (.bool false) 1 1 Tryz.underlying111 hi hz0 hz1 hz2 rfl (by decide) v2 J (bls (zeroJ N D) J) rfl (O25.out.alloc (.cells #[.bool false] 4)) ⟨w5.heap.size, 0, none⟩ 1 1 [.bool false] rfl rfl (cell_one_new w5 (.bool false) 4) (by simp [Value.oneCell']) (by unfold maxLen; omega) (by omega) (by have := Be5.out.size; simp; omega) ?_
            intro v2' w6 hown2 hgrow2 _ hat2
            have hat2' : v2'.ownBlock = v2.ownBlock ∨ v2'.ownBlock = some (w5.heap.size + 1) := by simpa using hat2
            have G2 := hid hgrow2; have OW2 := hid hown2; have AT2 := hid hat2'
            obtain ⟨p2, q2, rfl, -, -⟩ := hown2.form (Nat.succ_pos J)
            clear hown2 hgrow2 hat2 hat2'
            have Bk6 : Hid (Blk w6 gc #[v1, v2] 132) := Blk.grown (Bk5.out.alloc _) G2.out TA.out.n2
            have Bb6 : Hid (Blk w6 w.heap.size #[.bool m, .slice aN lN cN, .slice aD lD cD] 68) := Blk.grown (Bb5.out.alloc _) G2.out (fun e => by have := TA.out.b2 _ e; omega)
            have Br6 : Hid (Blk w6 (w.heap.size + 1) #[.slice none 0 0, .slice none 0 0] 132) := Blk.grown (Br5.out.alloc _) G2.out (fun e => by have := TA.out.b2 _ e; omega)
            have Be6 : Hid (Below w.heap.size w w6) := by
              have h1 : Below w.heap.size w (w5.alloc (.cells #[.bool false] 4)) := Be5.out.alloc Be5.out.size _
              exact h1.trans ⟨G2.out.os, G2.out.tape, G2.out.output, G2.out.size, fun i hi => G2.out.block i (by have := h1.size; omega) (fun e => by have := TA.out.b2 _ e.symm; omega)⟩
            go_wp2_with fail
            refine ⟨⟨Bk6.out.cell 0, Bk6.out.cell 1⟩, ?_⟩
            refine wpAnyH_done (by kernel_rfl) ?_ _
            simp only [Only, ThenL, List.drop_succ_cons, List.drop_zero]
            have TN := hid (ts_next TA.out HGC.out x1 x2 OW1.out G1.out AT1.out OW2.out G2.out AT2.out)
            have c0 := Bk6.out.cell 0
            have f0 := Bk6.out.free 0
            have Bk7 := Bk6.out.set 0 (.slice (some ⟨p1, 0, none⟩) (J + 1) q1)
            have c1 := Bk7.cell 1
            have f1 := Bk7.free 1
            simp at c0 c1
            have B7 := hid ((Be6.out.setCell (p := ⟨gc, 0, none⟩) (by simp; omega) (.slice (some ⟨p1, 0, none⟩) (J + 1) q1)).setCell (p := ⟨gc, 1, none⟩) (by simp; omega) (.slice (some ⟨p2, 0, none⟩) (J + 1) q2))
            have Bb7 := hid ((Bb6.out.other (a := ⟨gc, 0, none⟩) (by simp; omega) (.slice (some ⟨p1, 0, none⟩) (J + 1) q1)).other (a := ⟨gc, 1, none⟩) (by simp; omega) (.slice (some ⟨p2, 0, none⟩) (J + 1) q2))
            have Br7 := hid ((Br6.out.other (a := ⟨gc, 0, none⟩) (by simp; omega) (.slice (some ⟨p1, 0, none⟩) (J + 1) q1)).other (a := ⟨gc, 1, none⟩) (by simp; omega) (.slice (some ⟨p2, 0, none⟩) (J + 1) q2))
            clear Bk7
            go_wp2_with fail
            simp only [Only]
            go_wp2_with fail
            go_roundw
            case rel => exact ⟨J + 1, _, _, by rw [Nat.add_sub_cancel, x3], by go_num, by omega, by omega, TN, Bb7, Br7, B7⟩
            case measure => simp [intOf] <;> omega
          · obtain ⟨x1, x2, x3⟩ := E1.out
            have KC : Hid (∀ W, Below wr.heap.size wr W → W.cell? ⟨gc, 0, none⟩ = some v1 ∧ W.cell? ⟨gc, 1, none⟩ = some v2) := fun W hW => ⟨(hT.out.call hW).blk.cell 0, (hT.out.call hW).blk.cell 1⟩
            have TA := hid (hT.out.call A9.out)
            have jn := JL.out
            have hn9 := HN.out
            have hgc9 := HGC.out
            have K0A := hid (hK0.out.call A9.out); have K1A := hid (hK1.out.call A9.out); have BA := hid (hB.out.trans (A9.out.mono hB.out.size))
            refine held_lasts3 21 3 [] [(18, 19), (17, 18), (16, 17), (11, 17), (15, 16), (14, 16), (13, 14), (12, 13), (10, 11)] [0, 1, 2, 3, 4, 5, 8, 9, 10] 12 (fun W' => W'.cell? ⟨gc, 0, none⟩ = some v1 ∧ W'.cell? ⟨gc, 1, none⟩ = some v2) (by kernel_rfl) (by kernel_rfl) (by kernel_rfl) (by kernel_rfl) (by kernel_rfl) (by kernel_rfl) (by kernel_rfl) (by kernel_rfl) (by kernel_rfl) (by kernel_rfl) (by kernel_rfl) (by kernel_rfl) (KC.out _ A9.out.drew) ?_
            show wpPick _ _ _ _ _ _
            iterate 9
              refine ⟨_, rfl, ?_⟩
              apply Exists.intro
              first
                | (refine ⟨.inl ⟨by rfl, ?_⟩, ?_⟩
                   · (intro W' hW'; obtain ⟨r1, r2⟩ := hW'; go_simp; try (with_reducible rfl)))
                | refine ⟨.inr ⟨by rfl, rfl⟩, ?_⟩
              (dsimp only [Act.put]; try simp only [List.setIfInBounds_toArray, List.set_cons_zero, List.set_cons_succ])
            refine held_one (i := 6) (by kernel_rfl) (by rfl) (by rfl) ?_
            go_wp2_with fail
            have D1 := hid (show Below wi'.heap.size wi' (wi'.alloc (.cells #[.bool true] 4)).drew from ((Below.refl _ _).alloc (Nat.le_refl _) _).drew)
            refine ⟨KC.out _ (bnext A9.out D1.out), ?_⟩
            refine held_one (i := 7) (by kernel_rfl) (by rfl) (by rfl) ?_
            refine wpList_append_own_at _ rfl _ _ 111 rfl w.heap.size 4 i0 (.bool false) 1 1 Tryz.underlying111 hi hz0 hz1 hz2 rfl (by decide) v1 J (bls (oneJ N D) J) rfl (TA.out.o1.alloc (.cells #[.bool true] 4)) ⟨wi'.heap.size, 0, none⟩ 1 1 [.bool true] rfl rfl (cell_one_new wi' (.bool true) 4) (by simp [Value.oneCell']) (by unfold maxLen; omega) (by omega) (by have := BA.out.size; simp; omega) ?_
            intro v1' w5 hown1 hgrow1 _ hat1
            have hat1' : v1'.ownBlock = v1.ownBlock ∨ v1'.ownBlock = some (wi'.heap.size + 1) := by simpa using hat1
            have hgrow1' : (wi'.alloc (.cells #[.bool true] 4)).grownBy w5 v1.ownBlock := ⟨hgrow1.os, hgrow1.tape, hgrow1.output, hgrow1.size, hgrow1.block⟩
            have G1 := hid hgrow1'; have OW1 := hid hown1; have AT1 := hid hat1'
            obtain ⟨p1, q1, rfl, -, -⟩ := hown1.form (Nat.succ_pos J)
            clear hown1 hgrow1 hgrow1' hat1 hat1'
            have Bk5 : Hid (Blk w5 gc #[v1, v2] 132) := Blk.grown (TA.out.blk.alloc _) G1.out TA.out.n1
            have Bb5 : Hid (Blk w5 w.heap.size #[.bool m, .slice aN lN cN, .slice aD lD cD] 68) := Blk.grown (K0A.out.alloc _) G1.out (fun e => by have := TA.out.b1 _ e; omega)
            have Br5 : Hid (Blk w5 (w.heap.size + 1) #[.slice none 0 0, .slice none 0 0] 132) := Blk.grown (K1A.out.alloc _) G1.out (fun e => by have := TA.out.b1 _ e; omega)
            have Be5 : Hid (Below w.heap.size w w5) := by
              have h1 : Below w.heap.size w (wi'.alloc (.cells #[.bool true] 4)) := BA.out.alloc BA.out.size _
              exact h1.trans ⟨G1.out.os, G1.out.tape, G1.out.output, G1.out.size, fun i hi => G1.out.block i (by have := h1.size; omega) (fun e => by have := TA.out.b1 _ e.symm; omega)⟩
            have o25 : w5.ownsRow w.heap.size 4 1 v2 J (bls (zeroJ N D) J) := (TA.out.o2.alloc (.cells #[.bool true] 4)).kept G1.out (by
              cases hv : v2.ownBlock with
              | none => exact .inl rfl
              | some g => exact .inr fun e => TA.out.n12 g e.symm hv)
            have O25 := hid o25
            clear o25
            go_wp2_with fail
            refine ⟨⟨Bk5.out.cell 0, Bk5.out.cell 1⟩, ?_⟩
            refine held_more (is := [11, 12, 13, 14, 15, 16, 17, 20]) (g := 2) (by kernel_rfl) rfl ⟨Bk5.out.cell 0, Bk5.out.cell 1⟩ (by kernel_rfl) ?_
            iterate 8
              refine ⟨_, rfl, ?_⟩
              apply Exists.intro
              first
                | (refine ⟨.inl ⟨by rfl, ?_⟩, ?_⟩
                   · (intro W' hW'; obtain ⟨r1, r2⟩ := hW'; go_simp; try (with_reducible rfl)))
                | refine ⟨.inr ⟨by rfl, rfl⟩, ?_⟩
              (dsimp only [Act.put]; try simp only [List.setIfInBounds_toArray, List.set_cons_zero, List.set_cons_succ])
            refine held_one (i := 18) (by kernel_rfl) (by rfl) (by rfl) ?_
            go_wp2_with fail
            refine ⟨⟨(Bk5.out.alloc _).cell 0, (Bk5.out.alloc _).cell 1⟩, ?_⟩
            refine held_one (i := 19) (by kernel_rfl) (by rfl) (by rfl) ?_
            refine wpList_append_own_at _ rfl _ _ 111 rfl w.heap.size 4 i0 (.bool false) 1 1 Tryz.underlying111 hi hz0 hz1 hz2 rfl (by decide) v2 J (bls (zeroJ N D) J) rfl (O25.out.alloc (.cells #[.bool false] 4)) ⟨w5.heap.size, 0, none⟩ 1 1 [.bool false] rfl rfl (cell_one_new w5 (.bool false) 4) (by simp [Value.oneCell']) (by unfold maxLen; omega) (by omega) (by have := Be5.out.size; simp; omega) ?_
            intro v2' w6 hown2 hgrow2 _ hat2
            have hat2' : v2'.ownBlock = v2.ownBlock ∨ v2'.ownBlock = some (w5.heap.size + 1) := by simpa using hat2
            have G2 := hid hgrow2; have OW2 := hid hown2; have AT2 := hid hat2'
            obtain ⟨p2, q2, rfl, -, -⟩ := hown2.form (Nat.succ_pos J)
            clear hown2 hgrow2 hat2 hat2'
            have Bk6 : Hid (Blk w6 gc #[v1, v2] 132) := Blk.grown (Bk5.out.alloc _) G2.out TA.out.n2
            have Bb6 : Hid (Blk w6 w.heap.size #[.bool m, .slice aN lN cN, .slice aD lD cD] 68) := Blk.grown (Bb5.out.alloc _) G2.out (fun e => by have := TA.out.b2 _ e; omega)
            have Br6 : Hid (Blk w6 (w.heap.size + 1) #[.slice none 0 0, .slice none 0 0] 132) := Blk.grown (Br5.out.alloc _) G2.out (fun e => by have := TA.out.b2 _ e; omega)
            have Be6 : Hid (Below w.heap.size w w6) := by
              have h1 : Below w.heap.size w (w5.alloc (.cells #[.bool false] 4)) := Be5.out.alloc Be5.out.size _
              exact h1.trans ⟨G2.out.os, G2.out.tape, G2.out.output, G2.out.size, fun i hi => G2.out.block i (by have := h1.size; omega) (fun e => by have := TA.out.b2 _ e.symm; omega)⟩
            go_wp2_with fail
            refine ⟨⟨Bk6.out.cell 0, Bk6.out.cell 1⟩, ?_⟩
            refine wpAnyH_done (by kernel_rfl) ?_ _
            simp only [Only, ThenL, List.drop_succ_cons, List.drop_zero]
            have TN := hid (ts_next TA.out HGC.out x1 x2 OW1.out G1.out AT1.out OW2.out G2.out AT2.out)
            have c0 := Bk6.out.cell 0
            have f0 := Bk6.out.free 0
            have Bk7 := Bk6.out.set 0 (.slice (some ⟨p1, 0, none⟩) (J + 1) q1)
            have c1 := Bk7.cell 1
            have f1 := Bk7.free 1
            simp at c0 c1
            have B7 := hid ((Be6.out.setCell (p := ⟨gc, 0, none⟩) (by simp; omega) (.slice (some ⟨p1, 0, none⟩) (J + 1) q1)).setCell (p := ⟨gc, 1, none⟩) (by simp; omega) (.slice (some ⟨p2, 0, none⟩) (J + 1) q2))
            have Bb7 := hid ((Bb6.out.other (a := ⟨gc, 0, none⟩) (by simp; omega) (.slice (some ⟨p1, 0, none⟩) (J + 1) q1)).other (a := ⟨gc, 1, none⟩) (by simp; omega) (.slice (some ⟨p2, 0, none⟩) (J + 1) q2))
            have Br7 := hid ((Br6.out.other (a := ⟨gc, 0, none⟩) (by simp; omega) (.slice (some ⟨p1, 0, none⟩) (J + 1) q1)).other (a := ⟨gc, 1, none⟩) (by simp; omega) (.slice (some ⟨p2, 0, none⟩) (J + 1) q2))
            clear Bk7
            go_wp2_with fail
            simp only [Only]
            go_wp2_with fail
            go_roundw
            case rel => exact ⟨J + 1, _, _, by rw [Nat.add_sub_cancel, x3], by go_num, by omega, by omega, TN, Bb7, Br7, B7⟩
            case measure => simp [intOf] <;> omega
        · have E1 : Hid (oneJ N D J = o ∧ zeroJ N D J = o ∧ (sdx N D J).2 = false) := by
            refine ⟨?_, ?_, ?_⟩
            · rw [HT1.out, HAB.out]; cases o <;> rfl
            · rw [HT2.out, HAB.out, HEQ.out]; cases o <;> rfl
            · rw [HT3.out, HAB.out, HEQ.out]; cases o <;> rfl
          go_wp2_with fail
          cases o
          · obtain ⟨x1, x2, x3⟩ := E1.out
            have KC : Hid (∀ W, Below wr.heap.size wr W → W.cell? ⟨gc, 0, none⟩ = some v1 ∧ W.cell? ⟨gc, 1, none⟩ = some v2) := fun W hW => ⟨(hT.out.call hW).blk.cell 0, (hT.out.call hW).blk.cell 1⟩
            have TA := hid (hT.out.call A9.out)
            have jn := JL.out
            have hn9 := HN.out
            have hgc9 := HGC.out
            have K0A := hid (hK0.out.call A9.out); have K1A := hid (hK1.out.call A9.out); have BA := hid (hB.out.trans (A9.out.mono hB.out.size))
            refine held_lasts3 21 3 [] [(18, 19), (17, 18), (16, 17), (11, 17), (15, 16), (14, 16), (13, 14), (12, 13), (10, 11)] [0, 1, 2, 3, 4, 5, 8, 9, 10] 12 (fun W' => W'.cell? ⟨gc, 0, none⟩ = some v1 ∧ W'.cell? ⟨gc, 1, none⟩ = some v2) (by kernel_rfl) (by kernel_rfl) (by kernel_rfl) (by kernel_rfl) (by kernel_rfl) (by kernel_rfl) (by kernel_rfl) (by kernel_rfl) (by kernel_rfl) (by kernel_rfl) (by kernel_rfl) (by kernel_rfl) (KC.out _ A9.out.drew) ?_
            show wpPick _ _ _ _ _ _
            iterate 9
              refine ⟨_, rfl, ?_⟩
              apply Exists.intro
              first
                | (refine ⟨.inl ⟨by rfl, ?_⟩, ?_⟩
                   · (intro W' hW'; obtain ⟨r1, r2⟩ := hW'; go_simp; try (with_reducible rfl)))
                | refine ⟨.inr ⟨by rfl, rfl⟩, ?_⟩
              (dsimp only [Act.put]; try simp only [List.setIfInBounds_toArray, List.set_cons_zero, List.set_cons_succ])
            refine held_one (i := 6) (by kernel_rfl) (by rfl) (by rfl) ?_
            go_wp2_with fail
            have D1 := hid (show Below wi'.heap.size wi' (wi'.alloc (.cells #[.bool false] 4)).drew from ((Below.refl _ _).alloc (Nat.le_refl _) _).drew)
            refine ⟨KC.out _ (bnext A9.out D1.out), ?_⟩
            refine held_one (i := 7) (by kernel_rfl) (by rfl) (by rfl) ?_
            refine wpList_append_own_at _ rfl _ _ 111 rfl w.heap.size 4 i0 (.bool false) 1 1 Tryz.underlying111 hi hz0 hz1 hz2 rfl (by decide) v1 J (bls (oneJ N D) J) rfl (TA.out.o1.alloc (.cells #[.bool false] 4)) ⟨wi'.heap.size, 0, none⟩ 1 1 [.bool false] rfl rfl (cell_one_new wi' (.bool false) 4) (by simp [Value.oneCell']) (by unfold maxLen; omega) (by omega) (by have := BA.out.size; simp; omega) ?_
            intro v1' w5 hown1 hgrow1 _ hat1
            have hat1' : v1'.ownBlock = v1.ownBlock ∨ v1'.ownBlock = some (wi'.heap.size + 1) := by simpa using hat1
            have hgrow1' : (wi'.alloc (.cells #[.bool false] 4)).grownBy w5 v1.ownBlock := ⟨hgrow1.os, hgrow1.tape, hgrow1.output, hgrow1.size, hgrow1.block⟩
            have G1 := hid hgrow1'; have OW1 := hid hown1; have AT1 := hid hat1'
            obtain ⟨p1, q1, rfl, -, -⟩ := hown1.form (Nat.succ_pos J)
            clear hown1 hgrow1 hgrow1' hat1 hat1'
            have Bk5 : Hid (Blk w5 gc #[v1, v2] 132) := Blk.grown (TA.out.blk.alloc _) G1.out TA.out.n1
            have Bb5 : Hid (Blk w5 w.heap.size #[.bool m, .slice aN lN cN, .slice aD lD cD] 68) := Blk.grown (K0A.out.alloc _) G1.out (fun e => by have := TA.out.b1 _ e; omega)
            have Br5 : Hid (Blk w5 (w.heap.size + 1) #[.slice none 0 0, .slice none 0 0] 132) := Blk.grown (K1A.out.alloc _) G1.out (fun e => by have := TA.out.b1 _ e; omega)
            have Be5 : Hid (Below w.heap.size w w5) := by
              have h1 : Below w.heap.size w (wi'.alloc (.cells #[.bool false] 4)) := BA.out.alloc BA.out.size _
              exact h1.trans ⟨G1.out.os, G1.out.tape, G1.out.output, G1.out.size, fun i hi => G1.out.block i (by have := h1.size; omega) (fun e => by have := TA.out.b1 _ e.symm; omega)⟩
            have o25 : w5.ownsRow w.heap.size 4 1 v2 J (bls (zeroJ N D) J) := (TA.out.o2.alloc (.cells #[.bool false] 4)).kept G1.out (by
              cases hv : v2.ownBlock with
              | none => exact .inl rfl
              | some g => exact .inr fun e => TA.out.n12 g e.symm hv)
            have O25 := hid o25
            clear o25
            go_wp2_with fail
            refine ⟨⟨Bk5.out.cell 0, Bk5.out.cell 1⟩, ?_⟩
            refine held_more (is := [11, 12, 13, 14, 15, 16, 17, 20]) (g := 2) (by kernel_rfl) rfl ⟨Bk5.out.cell 0, Bk5.out.cell 1⟩ (by kernel_rfl) ?_
            iterate 8
              refine ⟨_, rfl, ?_⟩
              apply Exists.intro
              first
                | (refine ⟨.inl ⟨by rfl, ?_⟩, ?_⟩
                   · (intro W' hW'; obtain ⟨r1, r2⟩ := hW'; go_simp; try (with_reducible rfl)))
                | refine ⟨.inr ⟨by rfl, rfl⟩, ?_⟩
              (dsimp only [Act.put]; try simp only [List.setIfInBounds_toArray, List.set_cons_zero, List.set_cons_succ])
            refine held_one (i := 18) (by kernel_rfl) (by rfl) (by rfl) ?_
            go_wp2_with fail
            refine ⟨⟨(Bk5.out.alloc _).cell 0, (Bk5.out.alloc _).cell 1⟩, ?_⟩
            refine held_one (i := 19) (by kernel_rfl) (by rfl) (by rfl) ?_
            refine wpList_append_own_at _ rfl _ _ 111 rfl w.heap.size 4 i0 (.bool false) 1 1 Tryz.underlying111 hi hz0 hz1 hz2 rfl (by decide) v2 J (bls (zeroJ N D) J) rfl (O25.out.alloc (.cells #[.bool false] 4)) ⟨w5.heap.size, 0, none⟩ 1 1 [.bool false] rfl rfl (cell_one_new w5 (.bool false) 4) (by simp [Value.oneCell']) (by unfold maxLen; omega) (by omega) (by have := Be5.out.size; simp; omega) ?_
            intro v2' w6 hown2 hgrow2 _ hat2
            have hat2' : v2'.ownBlock = v2.ownBlock ∨ v2'.ownBlock = some (w5.heap.size + 1) := by simpa using hat2
            have G2 := hid hgrow2; have OW2 := hid hown2; have AT2 := hid hat2'
            obtain ⟨p2, q2, rfl, -, -⟩ := hown2.form (Nat.succ_pos J)
            clear hown2 hgrow2 hat2 hat2'
            have Bk6 : Hid (Blk w6 gc #[v1, v2] 132) := Blk.grown (Bk5.out.alloc _) G2.out TA.out.n2
            have Bb6 : Hid (Blk w6 w.heap.size #[.bool m, .slice aN lN cN, .slice aD lD cD] 68) := Blk.grown (Bb5.out.alloc _) G2.out (fun e => by have := TA.out.b2 _ e; omega)
            have Br6 : Hid (Blk w6 (w.heap.size + 1) #[.slice none 0 0, .slice none 0 0] 132) := Blk.grown (Br5.out.alloc _) G2.out (fun e => by have := TA.out.b2 _ e; omega)
            have Be6 : Hid (Below w.heap.size w w6) := by
              have h1 : Below w.heap.size w (w5.alloc (.cells #[.bool false] 4)) := Be5.out.alloc Be5.out.size _
              exact h1.trans ⟨G2.out.os, G2.out.tape, G2.out.output, G2.out.size, fun i hi => G2.out.block i (by have := h1.size; omega) (fun e => by have := TA.out.b2 _ e.symm; omega)⟩
            go_wp2_with fail
            refine ⟨⟨Bk6.out.cell 0, Bk6.out.cell 1⟩, ?_⟩
            refine wpAnyH_done (by kernel_rfl) ?_ _
            simp only [Only, ThenL, List.drop_succ_cons, List.drop_zero]
            have TN := hid (ts_next TA.out HGC.out x1 x2 OW1.out G1.out AT1.out OW2.out G2.out AT2.out)
            have c0 := Bk6.out.cell 0
            have f0 := Bk6.out.free 0
            have Bk7 := Bk6.out.set 0 (.slice (some ⟨p1, 0, none⟩) (J + 1) q1)
            have c1 := Bk7.cell 1
            have f1 := Bk7.free 1
            simp at c0 c1
            have B7 := hid ((Be6.out.setCell (p := ⟨gc, 0, none⟩) (by simp; omega) (.slice (some ⟨p1, 0, none⟩) (J + 1) q1)).setCell (p := ⟨gc, 1, none⟩) (by simp; omega) (.slice (some ⟨p2, 0, none⟩) (J + 1) q2))
            have Bb7 := hid ((Bb6.out.other (a := ⟨gc, 0, none⟩) (by simp; omega) (.slice (some ⟨p1, 0, none⟩) (J + 1) q1)).other (a := ⟨gc, 1, none⟩) (by simp; omega) (.slice (some ⟨p2, 0, none⟩) (J + 1) q2))
            have Br7 := hid ((Br6.out.other (a := ⟨gc, 0, none⟩) (by simp; omega) (.slice (some ⟨p1, 0, none⟩) (J + 1) q1)).other (a := ⟨gc, 1, none⟩) (by simp; omega) (.slice (some ⟨p2, 0, none⟩) (J + 1) q2))
            clear Bk7
            go_wp2_with fail
            simp only [Only]
            go_wp2_with fail
            go_roundw
            case rel => exact ⟨J + 1, _, _, by rw [Nat.add_sub_cancel, x3], by go_num, by omega, by omega, TN, Bb7, Br7, B7⟩
            case measure => simp [intOf] <;> omega
          · obtain ⟨x1, x2, x3⟩ := E1.out
            have KC : Hid (∀ W, Below wr.heap.size wr W → W.cell? ⟨gc, 0, none⟩ = some v1 ∧ W.cell? ⟨gc, 1, none⟩ = some v2) := fun W hW => ⟨(hT.out.call hW).blk.cell 0, (hT.out.call hW).blk.cell 1⟩
            have TA := hid (hT.out.call A9.out)
            have jn := JL.out
            have hn9 := HN.out
            have hgc9 := HGC.out
            have K0A := hid (hK0.out.call A9.out); have K1A := hid (hK1.out.call A9.out); have BA := hid (hB.out.trans (A9.out.mono hB.out.size))
            refine held_lasts3 21 3 [] [(18, 19), (17, 18), (16, 17), (11, 17), (15, 16), (14, 16), (13, 14), (12, 13), (10, 11)] [0, 1, 2, 3, 4, 5, 8, 9, 10] 12 (fun W' => W'.cell? ⟨gc, 0, none⟩ = some v1 ∧ W'.cell? ⟨gc, 1, none⟩ = some v2) (by kernel_rfl) (by kernel_rfl) (by kernel_rfl) (by kernel_rfl) (by kernel_rfl) (by kernel_rfl) (by kernel_rfl) (by kernel_rfl) (by kernel_rfl) (by kernel_rfl) (by kernel_rfl) (by kernel_rfl) (KC.out _ A9.out.drew) ?_
            show wpPick _ _ _ _ _ _
            iterate 9
              refine ⟨_, rfl, ?_⟩
              apply Exists.intro
              first
                | (refine ⟨.inl ⟨by rfl, ?_⟩, ?_⟩
                   · (intro W' hW'; obtain ⟨r1, r2⟩ := hW'; go_simp; try (with_reducible rfl)))
                | refine ⟨.inr ⟨by rfl, rfl⟩, ?_⟩
              (dsimp only [Act.put]; try simp only [List.setIfInBounds_toArray, List.set_cons_zero, List.set_cons_succ])
            refine held_one (i := 6) (by kernel_rfl) (by rfl) (by rfl) ?_
            go_wp2_with fail
            have D1 := hid (show Below wi'.heap.size wi' (wi'.alloc (.cells #[.bool true] 4)).drew from ((Below.refl _ _).alloc (Nat.le_refl _) _).drew)
            refine ⟨KC.out _ (bnext A9.out D1.out), ?_⟩
            refine held_one (i := 7) (by kernel_rfl) (by rfl) (by rfl) ?_
            refine wpList_append_own_at _ rfl _ _ 111 rfl w.heap.size 4 i0 (.bool false) 1 1 Tryz.underlying111 hi hz0 hz1 hz2 rfl (by decide) v1 J (bls (oneJ N D) J) rfl (TA.out.o1.alloc (.cells #[.bool true] 4)) ⟨wi'.heap.size, 0, none⟩ 1 1 [.bool true] rfl rfl (cell_one_new wi' (.bool true) 4) (by simp [Value.oneCell']) (by unfold maxLen; omega) (by omega) (by have := BA.out.size; simp; omega) ?_
            intro v1' w5 hown1 hgrow1 _ hat1
            have hat1' : v1'.ownBlock = v1.ownBlock ∨ v1'.ownBlock = some (wi'.heap.size + 1) := by simpa using hat1
            have hgrow1' : (wi'.alloc (.cells #[.bool true] 4)).grownBy w5 v1.ownBlock := ⟨hgrow1.os, hgrow1.tape, hgrow1.output, hgrow1.size, hgrow1.block⟩
            have G1 := hid hgrow1'; have OW1 := hid hown1; have AT1 := hid hat1'
            obtain ⟨p1, q1, rfl, -, -⟩ := hown1.form (Nat.succ_pos J)
            clear hown1 hgrow1 hgrow1' hat1 hat1'
            have Bk5 : Hid (Blk w5 gc #[v1, v2] 132) := Blk.grown (TA.out.blk.alloc _) G1.out TA.out.n1
            have Bb5 : Hid (Blk w5 w.heap.size #[.bool m, .slice aN lN cN, .slice aD lD cD] 68) := Blk.grown (K0A.out.alloc _) G1.out (fun e => by have := TA.out.b1 _ e; omega)
            have Br5 : Hid (Blk w5 (w.heap.size + 1) #[.slice none 0 0, .slice none 0 0] 132) := Blk.grown (K1A.out.alloc _) G1.out (fun e => by have := TA.out.b1 _ e; omega)
            have Be5 : Hid (Below w.heap.size w w5) := by
              have h1 : Below w.heap.size w (wi'.alloc (.cells #[.bool true] 4)) := BA.out.alloc BA.out.size _
              exact h1.trans ⟨G1.out.os, G1.out.tape, G1.out.output, G1.out.size, fun i hi => G1.out.block i (by have := h1.size; omega) (fun e => by have := TA.out.b1 _ e.symm; omega)⟩
            have o25 : w5.ownsRow w.heap.size 4 1 v2 J (bls (zeroJ N D) J) := (TA.out.o2.alloc (.cells #[.bool true] 4)).kept G1.out (by
              cases hv : v2.ownBlock with
              | none => exact .inl rfl
              | some g => exact .inr fun e => TA.out.n12 g e.symm hv)
            have O25 := hid o25
            clear o25
            go_wp2_with fail
            refine ⟨⟨Bk5.out.cell 0, Bk5.out.cell 1⟩, ?_⟩
            refine held_more (is := [11, 12, 13, 14, 15, 16, 17, 20]) (g := 2) (by kernel_rfl) rfl ⟨Bk5.out.cell 0, Bk5.out.cell 1⟩ (by kernel_rfl) ?_
            iterate 8
              refine ⟨_, rfl, ?_⟩
              apply Exists.intro
              first
                | (refine ⟨.inl ⟨by rfl, ?_⟩, ?_⟩
                   · (intro W' hW'; obtain ⟨r1, r2⟩ := hW'; go_simp; try (with_reducible rfl)))
                | refine ⟨.inr ⟨by rfl, rfl⟩, ?_⟩
              (dsimp only [Act.put]; try simp only [List.setIfInBounds_toArray, List.set_cons_zero, List.set_cons_succ])
            refine held_one (i := 18) (by kernel_rfl) (by rfl) (by rfl) ?_
            go_wp2_with fail
            refine ⟨⟨(Bk5.out.alloc _).cell 0, (Bk5.out.alloc _).cell 1⟩, ?_⟩
            refine held_one (i := 19) (by kernel_rfl) (by rfl) (by rfl) ?_
            refine wpList_append_own_at _ rfl _ _ 111 rfl w.heap.size 4 i0 (.bool false) 1 1 Tryz.underlying111 hi hz0 hz1 hz2 rfl (by decide) v2 J (bls (zeroJ N D) J) rfl (O25.out.alloc (.cells #[.bool true] 4)) ⟨w5.heap.size, 0, none⟩ 1 1 [.bool true] rfl rfl (cell_one_new w5 (.bool true) 4) (by simp [Value.oneCell']) (by unfold maxLen; omega) (by omega) (by have := Be5.out.size; simp; omega) ?_
            intro v2' w6 hown2 hgrow2 _ hat2
            have hat2' : v2'.ownBlock = v2.ownBlock ∨ v2'.ownBlock = some (w5.heap.size + 1) := by simpa using hat2
            have G2 := hid hgrow2; have OW2 := hid hown2; have AT2 := hid hat2'
            obtain ⟨p2, q2, rfl, -, -⟩ := hown2.form (Nat.succ_pos J)
            clear hown2 hgrow2 hat2 hat2'
            have Bk6 : Hid (Blk w6 gc #[v1, v2] 132) := Blk.grown (Bk5.out.alloc _) G2.out TA.out.n2
            have Bb6 : Hid (Blk w6 w.heap.size #[.bool m, .slice aN lN cN, .slice aD lD cD] 68) := Blk.grown (Bb5.out.alloc _) G2.out (fun e => by have := TA.out.b2 _ e; omega)
            have Br6 : Hid (Blk w6 (w.heap.size + 1) #[.slice none 0 0, .slice none 0 0] 132) := Blk.grown (Br5.out.alloc _) G2.out (fun e => by have := TA.out.b2 _ e; omega)
            have Be6 : Hid (Below w.heap.size w w6) := by
              have h1 : Below w.heap.size w (w5.alloc (.cells #[.bool true] 4)) := Be5.out.alloc Be5.out.size _
              exact h1.trans ⟨G2.out.os, G2.out.tape, G2.out.output, G2.out.size, fun i hi => G2.out.block i (by have := h1.size; omega) (fun e => by have := TA.out.b2 _ e.symm; omega)⟩
            go_wp2_with fail
            refine ⟨⟨Bk6.out.cell 0, Bk6.out.cell 1⟩, ?_⟩
            refine wpAnyH_done (by kernel_rfl) ?_ _
            simp only [Only, ThenL, List.drop_succ_cons, List.drop_zero]
            have TN := hid (ts_next TA.out HGC.out x1 x2 OW1.out G1.out AT1.out OW2.out G2.out AT2.out)
            have c0 := Bk6.out.cell 0
            have f0 := Bk6.out.free 0
            have Bk7 := Bk6.out.set 0 (.slice (some ⟨p1, 0, none⟩) (J + 1) q1)
            have c1 := Bk7.cell 1
            have f1 := Bk7.free 1
            simp at c0 c1
            have B7 := hid ((Be6.out.setCell (p := ⟨gc, 0, none⟩) (by simp; omega) (.slice (some ⟨p1, 0, none⟩) (J + 1) q1)).setCell (p := ⟨gc, 1, none⟩) (by simp; omega) (.slice (some ⟨p2, 0, none⟩) (J + 1) q2))
            have Bb7 := hid ((Bb6.out.other (a := ⟨gc, 0, none⟩) (by simp; omega) (.slice (some ⟨p1, 0, none⟩) (J + 1) q1)).other (a := ⟨gc, 1, none⟩) (by simp; omega) (.slice (some ⟨p2, 0, none⟩) (J + 1) q2))
            have Br7 := hid ((Br6.out.other (a := ⟨gc, 0, none⟩) (by simp; omega) (.slice (some ⟨p1, 0, none⟩) (J + 1) q1)).other (a := ⟨gc, 1, none⟩) (by simp; omega) (.slice (some ⟨p2, 0, none⟩) (J + 1) q2))
            clear Bk7
            go_wp2_with fail
            simp only [Only]
            go_wp2_with fail
            go_roundw
            case rel => exact ⟨J + 1, _, _, by rw [Nat.add_sub_cancel, x3], by go_num, by omega, by omega, TN, Bb7, Br7, B7⟩
            case measure => simp [intOf] <;> omega
    · have d0 : decide ((J : Int) ≤ (n : Int)) = false := by simp; omega
      have d0' : decide (J ≤ n) = false := by simp; omega
      obtain rfl : J = n + 1 := by omega
      obtain ⟨p1, q1, rfl, -, -⟩ := hT.out.o1.form (Nat.succ_pos n)
      obtain ⟨p2, q2, rfl, -, -⟩ := hT.out.o2.form (Nat.succ_pos n)
      have k0 := hT.out.blk.cell 0
      have k1 := hT.out.blk.cell 1
      simp at k0 k1
      have m0 := hK1.out.cell 0
      have m1 := (hK1.out.set 0 (.slice (some ⟨p1, 0, none⟩) (n + 1) q1)).cell 1
      have g0 := hK1.out.free 0
      have g1 := (hK1.out.set 0 (.slice (some ⟨p1, 0, none⟩) (n + 1) q1)).free 1
      simp at m0 m1
      have BF := hid ((hB.out.setCell (p := ⟨w.heap.size + 1, 0, none⟩) (by simp) (.slice (some ⟨p1, 0, none⟩) (n + 1) q1)).setCell (p := ⟨w.heap.size + 1, 1, none⟩) (by simp) (.slice (some ⟨p2, 0, none⟩) (n + 1) q2))
      have KF := hid ((hK1.out.set 0 (.slice (some ⟨p1, 0, none⟩) (n + 1) q1)).set 1 (.slice (some ⟨p2, 0, none⟩) (n + 1) q2))
      have RF1 := hid (Row.of_owns (owns_set (owns_set hT.out.o1 (a := ⟨w.heap.size + 1, 0, none⟩) (fun e => absurd (hT.out.b1 _ e) (Nat.lt_irrefl _)) (.slice (some ⟨p1, 0, none⟩) (n + 1) q1)) (a := ⟨w.heap.size + 1, 1, none⟩) (fun e => absurd (hT.out.b1 _ e) (Nat.lt_irrefl _)) (.slice (some ⟨p2, 0, none⟩) (n + 1) q2)))
      have RF2 := hid (Row.of_owns (owns_set (owns_set hT.out.o2 (a := ⟨w.heap.size + 1, 0, none⟩) (fun e => absurd (hT.out.b2 _ e) (Nat.lt_irrefl _)) (.slice (some ⟨p1, 0, none⟩) (n + 1) q1)) (a := ⟨w.heap.size + 1, 1, none⟩) (fun e => absurd (hT.out.b2 _ e) (Nat.lt_irrefl _)) (.slice (some ⟨p2, 0, none⟩) (n + 1) q2)))
      clear hlt hJ1 hJ2
      go_wp2_with fail
      have f0 := KF.out.cell 0
      have f1 := KF.out.cell 1
      simp at f0 f1
      refine bodyPost_ret (v := .agg #[.slice (some ⟨p1, 0, none⟩) (n + 1) q1, .slice (some ⟨p2, 0, none⟩) (n + 1) q2]) (by simp [results, Tryz.results118, go_sem, f0, f1]) rfl ⟨⟨_, _, rfl, RF1.out, RF2.out⟩, BF.out⟩
end Go.Proofs.YtccalhlhdiapiaaGreatDoor
namespace Go.Proofs.YtccalhlhdiapiaaGreatDoor
open Go.RowKit Go.Shelf
open Go.Lib (decDigits nDigits)
set_option linter.unusedVariables false
set_option linter.unusedSimpArgs false
def dF (c : Nat → Bool) (u : Nat → Nat) (i j k : Nat) : Nat := dlt k + aF c u i j k
theorem dF_at {N D n i j : Nat} (h0 : oneJ N D 0 = false) (hi : i ≤ n) : dF (oneJ N D) (uT (oneJ N D) (zeroJ N D) n) i j i = uT (oneJ N D) (zeroJ N D) n i := by
  have h := (tOut_get (zs := zeroJ N D) h0 (n := n) (i := i) (by omega) i hi).1
  unfold dF aF
  have e : (if i ≤ i ∧ i < i + j ∧ oneJ N D (i - i) = true then uT (oneJ N D) (zeroJ N D) n i else 0) = 0 := if_neg fun hh => by rw [Nat.sub_self, h0] at hh; cases hh.2.2
  rw [e, Nat.add_zero]
  exact h.symm
theorem dF_le {N D n i j k : Nat} (h0 : oneJ N D 0 = false) (hi : i ≤ n) (hk : k ≤ n) : dF (oneJ N D) (uT (oneJ N D) (zeroJ N D) n) i j k ≤ uT (oneJ N D) (zeroJ N D) n k := by
  rw [uT_eq h0 hk]
  exact Nat.add_le_add_left (aF_le hi hk) _
theorem uT_le {N D n k : Nat} (h0 : oneJ N D 0 = false) (hk : k ≤ n) : uT (oneJ N D) (zeroJ N D) n k ≤ 2 ^ k := (TB.outer (zs := zeroJ N D) h0 n k (by omega)).src
theorem tot_le {N D n k : Nat} (h0 : oneJ N D 0 = false) (hk : k ≤ n) : cvo (chi (zeroJ N D)) (uT (oneJ N D) (zeroJ N D) n) k ≤ 2 ^ (n + 2) := by
  rw [← tot_eq h0 hk]
  exact (TB.outer (zs := zeroJ N D) h0 n (n + 1) (Nat.le_refl _)).up2 k
set_option maxRecDepth 100000 in
set_option maxHeartbeats 4000000 in
theorem er_decided (w : World) (m : Bool) (vN vD : Value) (N D n : Nat) (hn : n ≤ 300) (h0 : 0 < N) (hND : N < D) (hN : IsN .i64 w vN N) (hD : IsN .i64 w vD D) (hd : ∀ j, j ≤ n → nDigits (N * 2 ^ j) ≤ 4000) :
    Calls Tryz.prog 68 #[.agg #[.bool m, vN, vD], .int .i64 (n : Nat)] w fun e w' => (∃ g c, e = .returned (.slice (some ⟨g, 0, none⟩) (n + 1) c) ∧ NTab w.heap.size w' g (n + 1) c (fun k => (tOut (oneJ N D) (zeroJ N D) n (n + 1)).2.getD k 0)) ∧ Below w.heap.size w w' := by
  obtain ⟨aN, cN, rfl, -, -, -⟩ := hN.openI
  obtain ⟨aD, cD, rfl, -, -, -⟩ := hD.openI
  obtain ⟨lN, hlN⟩ : ∃ l, (limbs N).length = l := ⟨_, rfl⟩
  obtain ⟨lD, hlD⟩ : ∃ l, (limbs D).length = l := ⟨_, rfl⟩
  rw [hlN] at hN ⊢
  rw [hlD] at hD ⊢
  have HT := fun V hV1 hV2 => hid (er_tossed V m (.slice aN lN cN) (.slice aD lD cD) N D n hn h0 hND hV1 hV2 hd)
  have NN := hid hN; have ND := hid hD
  have HN := hid hn
  clear hN hD hd
  go_enter Tryz.func68, Tryz.ntmps68
  go_wp2_with fail
  have C0 := hid ((Below.refl w.heap.size w).alloc (Nat.le_refl _) (.cells #[.bool m, .slice aN lN cN, .slice aD lD cD] 68))
  refine (HT _ (NN.out.call C0.out) (ND.out.call C0.out)).out.mono ?_; rintro e w1 ⟨⟨u1, u2, rfl, hu1, hu2⟩, hb1⟩
  obtain ⟨a1, c1, rfl, p1, p2, -⟩ := hu1.ex
  obtain ⟨a2, c2, rfl, p3, p4, -⟩ := hu2.ex
  simp only [bls_len] at p1 p3 hu1 hu2 ⊢
  have HZ := fun V => hid (er_zeros V n (by omega))
  have HR := fun V => hid (read_one V)
  have Z1 : Hid (oneJ N D 0 = false ∧ zeroJ N D 0 = false) := ⟨rfl, by simp [zeroJ]; omega⟩
  have EQ : Hid (∀ k, k ≤ n → dF (oneJ N D) (uT (oneJ N D) (zeroJ N D) n) (n + 1) 1 k = uT (oneJ N D) (zeroJ N D) n k) := fun k hk => by
    unfold dF
    rw [aF_end hk, ← uT_eq Z1.out.1 hk]
  obtain ⟨WA, hWA⟩ : ∃ W, (w1.alloc (.cells #[.slice a1 (n + 1) c1, .slice a2 (n + 1) c2] 132)) = W := ⟨_, rfl⟩
  have BA : Hid (Below w.heap.size w WA) := by
    show Below w.heap.size w WA
    rw [← hWA]
    have h1 := (C0.out.trans (hb1.mono C0.out.size))
    exact h1.alloc h1.size _
  have BB : Hid (Below w1.heap.size w1 WA) := by
    show Below w1.heap.size w1 WA
    rw [← hWA]
    exact (Below.refl _ _).alloc (Nat.le_refl _) _
  have KA : Hid (Blk WA w1.heap.size #[.slice a1 (n + 1) c1, .slice a2 (n + 1) c2] 132) := by
    show Blk _ _ _ _
    rw [← hWA]
    exact Blk.new w1 _ _
  have U1 := hid (hu1.call BB.out); have U2 := hid (hu2.call BB.out)
  obtain ⟨gc, hgc⟩ : ∃ g, w1.heap.size = g := ⟨_, rfl⟩
  rw [hgc] at KA
  clear hu1 hu2 hb1 BB
  go_wp2_with fail
  try rw [hWA]
  try rw [hgc]
  clear hWA hgc
  refine (HZ _).out.mono ?_; rintro e w2 ⟨⟨g, c, rfl, ht⟩, hb2⟩
  have T0 := hid ht; have B2 := hid hb2
  clear ht hb2
  go_wp2_with fail
  refine (HR _).out.mono ?_; rintro e w3 ⟨⟨v1, rfl, hv1, hf1⟩, hb3⟩
  obtain ⟨av, cv, rfl, -, -, -⟩ := hv1.openI
  obtain ⟨lv, hlv⟩ : ∃ l, (limbs 1).length = l := ⟨_, rfl⟩
  rw [hlv] at hv1 hf1 ⊢
  have B3 := hid (bnext B2.out hb3)
  have T1 := hid (T0.out.call hb3)
  have F1 : Hid (∀ g', (Value.slice av lv cv).ownBlock = some g' → WA.heap.size ≤ g' ∧ g' ≠ g) := fun g' hg => by
    have h1 : w2.heap.size ≤ g' := hf1 g' hg
    have h2 := T0.out.slot
    have h3 := B2.out.size
    exact ⟨by omega, by omega⟩
  have V1 := hid hv1
  have fr := T1.out.slot.2.2.2.2 0
  obtain ⟨x0, cx0, -, -⟩ := T1.out.at (i := 0) (by omega)
  have e0 : (0 : Int) < ((n + 1 : Nat) : Int) := by omega
  have e0' : (0 : Int) < (n : Int) + 1 := by omega
  have T2 : Hid (NTab WA.heap.size (w3.setCell ⟨g, 0, none⟩ (.slice av lv cv)) g (n + 1) c (dF (oneJ N D) (uT (oneJ N D) (zeroJ N D) n) 0 1)) := (T1.out.put 0 V1.out (.inr F1.out)).fn fun k hk => by
    unfold dF
    rw [aF_zero _ Z1.out.1, Nat.add_zero]
    rfl
  have B4 := hid (B3.out.setCell (p := ⟨g, 0, none⟩) (by have := T1.out.slot.1; exact this) (.slice av lv cv))
  clear hlv hv1 hf1 hb3
  go_wp2_with fail
  clear cx0 T0 T1 fr e0 e0' F1 V1 B2 B3 HR HT HZ
  have SZ : Hid (gc < WA.heap.size) := KA.out.lt
  have CC := hid (KA.out.cell 0); have CC2 := hid (KA.out.cell 1)
  have HDF : Hid (∀ i j k, i ≤ n → k ≤ n → (limbs (dF (oneJ N D) (uT (oneJ N D) (zeroJ N D) n) i j k)).length ≤ 1000000) := fun i j k hi hk => num_limbs (two_pow_digits (Nat.le_trans (dF_le Z1.out.1 hi hk) (uT_le Z1.out.1 hk)) (by omega))
  have HBL : Hid (∀ j, j < n + 1 → ∃ gb ob, a1 = some ⟨gb, ob, none⟩ ∧ gb < WA.heap.size ∧ WA.cell? ⟨gb, ob + j, none⟩ = some (.bool (oneJ N D j))) := fun j hj => U1.out.at (by unfold bls; rw [List.getElem?_map, List.getElem?_range hj]; rfl)
  go_loopw [7] (fun s7 wr => ∃ i : Nat, s7 = .int .i64 (i : Nat) ∧ i ≤ n + 1 ∧ Hid (NTab WA.heap.size wr g (n + 1) c (dF (oneJ N D) (uT (oneJ N D) (zeroJ N D) n) i 1)) ∧ Hid (Below WA.heap.size WA wr)) (fun s7 wr => n + 1 - (intOf s7).toNat)
  case atStart => exact ⟨0, rfl, Nat.zero_le _, T2, B4⟩
  case round =>
    clear T2 B4
    obtain ⟨i, rfl, hi, hT, hB⟩ := hrel
    by_cases hlt : i ≤ n
    · have q0 : decide ((i : Int) ≤ (n : Int)) = true := by simp; omega
      have d0 : decide (i ≤ n) = true := by simp; omega
      have f0 : (0 : Int) ≤ (i : Int) := by omega
      have f1 : (i : Int) < ((n + 1 : Nat) : Int) := by omega
      have f1' : (i : Int) < (n : Int) + 1 := by omega
      have f9 : (i : Int) ≤ 1000 := by have := HN.out; omega
      have IL := hid hlt
      clear hi hlt
      go_wp2_with fail
      go_loopw [8] (fun s8 wq => ∃ j : Nat, s8 = .int .i64 (j : Nat) ∧ 1 ≤ j ∧ (i + j ≤ n + 1 ∨ j = 1) ∧ Hid (NTab WA.heap.size wq g (n + 1) c (dF (oneJ N D) (uT (oneJ N D) (zeroJ N D) n) i j)) ∧ Hid (Below WA.heap.size WA wq)) (fun s8 wq => n + 2 - (intOf s8).toNat)
      case atStart => exact ⟨1, rfl, Nat.le_refl _, .inr rfl, hT, hB⟩
      case round =>
        clear hT hB
        obtain ⟨j, rfl, hj1, hj, hT, hB⟩ := hrel
        have wij : IntKind.i64.wrap ((i : Int) + (j : Int)) = (i : Int) + (j : Int) := by have := HN.out; rw [IntWalk.i64_in _ ⟨by omega, by omega⟩]
        by_cases hlt : i + j < n + 1
        · have q1 : decide ((i : Int) + (j : Int) ≤ (n : Int)) = true := by simp; omega
          have f2 : (0 : Int) ≤ (j : Int) := by omega
          have f3 : (j : Int) < ((n + 1 : Nat) : Int) := by omega
          have f3' : (j : Int) < (n : Int) + 1 := by omega
          have f4 : (0 : Int) ≤ (i : Int) + (j : Int) := by omega
          have f5 : (i : Int) + (j : Int) < ((n + 1 : Nat) : Int) := by omega
          have f5' : (i : Int) + (j : Int) < (n : Int) + 1 := by omega
          have f6 : (j : Int) ≤ 1000 := by have := HN.out; omega
          have et : ((i : Int) + (j : Int)).toNat = i + j := by omega
          have JL := hid hlt
          obtain ⟨gb, ob, eb, hgb, hb1⟩ := HBL.out j (by omega)
          subst eb
          have cb1 := (hB.out.cell (p := ⟨gb, ob + j, none⟩) hgb).trans hb1
          have cc := (hB.out.cell (p := ⟨gc, 0, none⟩) SZ.out).trans CC.out
          obtain ⟨bj, hbj⟩ : ∃ t, oneJ N D j = t := ⟨_, rfl⟩
          rw [hbj] at cb1
          have HBJ := hid hbj
          have J1 := hid hj1
          clear hj hlt hb1 hbj hgb
          cases bj
          · have T2 : Hid (NTab WA.heap.size wr g (n + 1) c (dF (oneJ N D) (uT (oneJ N D) (zeroJ N D) n) i (j + 1))) := hT.out.fn fun k _ => by unfold dF; rw [aF_skip HBJ.out k]
            clear hj1
            go_wp2_with fail
            go_roundw
            case rel => exact ⟨j + 1, by go_num, by omega, .inl (by have := JL.out; omega), T2, hB⟩
            case measure => simp [intOf] <;> (have := JL.out; omega)
          · obtain ⟨x, cx, hx, -⟩ := hT.out.at (i := i + j) JL.out
            obtain ⟨y, cy, hy, -⟩ := hT.out.at (i := i) (by have := IL.out; omega)
            rw [dF_at Z1.out.1 IL.out] at hy
            have XN := hid hx
            have YN := hid hy
            clear hx hy hj1
            go_wp2_with fail
            refine held_lasts 15 2 [0, 1, 2, 3, 4, 5, 6, 7, 8, 9, 10, 11, 12, 13] 1 (fun W' => W'.cell? ⟨g, i + j, none⟩ = some x ∧ W'.cell? ⟨g, i, none⟩ = some y) (by kernel_rfl) rfl (by kernel_rfl) (by kernel_rfl) (by kernel_rfl) (by kernel_rfl) ⟨cx, cy⟩ ?_
            iterate 14
              refine ⟨_, rfl, ?_⟩
              apply Exists.intro
              refine ⟨.inl ⟨by rfl, ?_⟩, ?_⟩
              · (intro W' hW'; obtain ⟨r1, r2⟩ := hW'; go_simp; try (with_reducible rfl))
              (dsimp only [Act.put]; try simp only [List.setIfInBounds_toArray, List.set_cons_zero, List.set_cons_succ])
            refine held_one (i := 14) (by kernel_rfl) (by rfl) (by rfl) ?_
            go_wp2_with fail
            refine (r1_PlusF _ _ _ _ _ (XN.out.call (Below.refl _ _).drew) (YN.out.call (Below.refl _ _).drew) (HDF.out i j (i + j) IL.out (by have := JL.out; omega)) (by have := HDF.out i 1 i IL.out IL.out; rwa [dF_at Z1.out.1 IL.out] at this)).mono ?_; rintro e w5 ⟨⟨zz, rfl, hz, hf⟩, hbc⟩
            obtain ⟨az1, cz1, rfl, -, -, -⟩ := hz.openI
            obtain ⟨lz1, hlz⟩ : ∃ l, (limbs (dF (oneJ N D) (uT (oneJ N D) (zeroJ N D) n) i j (i + j) + uT (oneJ N D) (zeroJ N D) n i)).length = l := ⟨_, rfl⟩
            rw [hlz] at hz hf ⊢
            clear hlz
            have C1 := hid (show Below wr.heap.size wr w5 from (Below.refl _ _).drew.trans hbc)
            have T1 := hid (hT.out.call C1.out)
            have Z9 := hid hz
            have FZ1 : Hid (∀ g', (Value.slice az1 lz1 cz1).ownBlock = some g' → WA.heap.size ≤ g' ∧ g' ≠ g) := fun g' hg => by
              have h1 : wr.heap.size ≤ g' := hf g' hg
              have h2 := hT.out.slot
              have h3 := hB.out.size
              exact ⟨by omega, by omega⟩
            have m1 := (C1.out.cell (cell_lt cx)).trans cx
            have m2 := (C1.out.cell (cell_lt cy)).trans cy
            have B5 := hid (hB.out.trans (C1.out.mono hB.out.size))
            clear hz hf hbc cx cy cb1 cc
            go_wp2_with fail
            refine ⟨⟨m1, m2⟩, ?_⟩
            refine wpAnyH_done (by kernel_rfl) ?_ _
            simp only [Only, ThenL, List.drop_succ_cons, List.drop_zero]
            have m3 := T1.out.slot.2.2.2.2 (i + j)
            have T2 : Hid (NTab WA.heap.size (w5.setCell ⟨g, i + j, none⟩ (.slice az1 lz1 cz1)) g (n + 1) c (dF (oneJ N D) (uT (oneJ N D) (zeroJ N D) n) i (j + 1))) := (T1.out.put (i + j) Z9.out (.inr FZ1.out)).fn fun k hk => by
              unfold dF
              rw [aF_step HBJ.out]
              by_cases e : k = i + j
              · rw [if_pos e, if_pos e, e, Nat.add_assoc]
              · rw [if_neg e, if_neg e]
            have B6 := hid (B5.out.setCell (p := ⟨g, i + j, none⟩) (by have := hT.out.slot.1; exact this) (.slice az1 lz1 cz1))
            go_wp2_with fail
            try simp only [Only]
            go_roundw
            case rel => exact ⟨j + 1, by go_num, by have := J1.out; omega, .inl (by have := JL.out; omega), T2, B6⟩
            case measure => simp [intOf] <;> (have := JL.out; omega)
        · have q1 : decide ((i : Int) + (j : Int) ≤ (n : Int)) = false := by simp; omega
          have f6 : (j : Int) ≤ 1002 := by have := HN.out; omega
          have e2 : j = n + 1 - i := by have := IL.out; omega
          subst e2
          have T2 : Hid (NTab WA.heap.size wr g (n + 1) c (dF (oneJ N D) (uT (oneJ N D) (zeroJ N D) n) (i + 1) 1)) := hT.out.fn fun k hk => by
            unfold dF
            rw [aF_next Z1.out.1 IL.out (by omega)]
          clear hj hlt hj1
          go_wp2_with fail
          go_roundw
          case rel => exact ⟨i + 1, by go_num, by have := IL.out; omega, T2, hB⟩
          case measure => simp [intOf] <;> (have := IL.out; omega)
    · have e1 : i = n + 1 := by omega
      subst e1
      have q0 : decide (((n + 1 : Nat) : Int) ≤ (n : Int)) = false := by simp; omega
      have d0 : decide ((n : Int) + 1 ≤ (n : Int)) = false := by simp; omega
      have TE : Hid (NRow wr (.slice (some ⟨g, 0, none⟩) (n + 1) c) (n + 1) (uT (oneJ N D) (zeroJ N D) n)) := (hT.out.fn fun k hk => EQ.out k (by omega)).row
      have cc2 := (hB.out.cell (p := ⟨gc, 1, none⟩) SZ.out).trans CC2.out
      have U3 := hid (U2.out.call hB.out)
      clear hi hlt
      go_wp2_with fail
      refine (er_after _ _ _ n (uT (oneJ N D) (zeroJ N D) n) (zeroJ N D) (by have := HN.out; omega) TE.out U3.out Z1.out.2 (fun k hk => ⟨two_pow_digits (tot_le Z1.out.1 hk) (by have := HN.out; omega), two_pow_digits (uT_le Z1.out.1 hk) (by have := HN.out; omega)⟩)).mono ?_; rintro e w9 ⟨⟨g9, c9, rfl, ht9⟩, hb9⟩
      have BF := hid (BA.out.trans ((hB.out.trans (hb9.mono hB.out.size)).mono BA.out.size))
      have TF : Hid (NTab w.heap.size w9 g9 (n + 1) c9 (fun k => (tOut (oneJ N D) (zeroJ N D) n (n + 1)).2.getD k 0)) := (ht9.mono (Nat.le_trans BA.out.size hB.out.size)).fn fun k hk => (tot_eq Z1.out.1 (by omega)).symm
      clear ht9 hb9
      go_wp2_with fail
      go_ret
      exact ⟨⟨g9, c9, rfl, TF.out⟩, BF.out⟩
end Go.Proofs.YtccalhlhdiapiaaGreatDoor
namespace Go.Proofs.YtccalhlhdiapiaaGreatDoor
open Go.RowKit
open Go.Lib (decDigits nDigits)
set_option linter.unusedVariables false
set_option maxHeartbeats 1000000 in
theorem f_Zero (w : World) : Calls Tryz.prog 162 #[] w fun e w' => RetQ .u64 0 e w' ∧ Below w.heap.size w w' := by
  go_enter Tryz.func162, Tryz.ntmps162
  go_wp2_with fail
  refine (l_Of _ 1 (by omega)).mono ?_; rintro e w1 ⟨⟨v1, rfl, hv1⟩, hb1⟩
  obtain ⟨a3, c3, rfl, _⟩ := hv1.openI
  have HV := hid hv1
  have HB := hid (show Blk w1 w.heap.size #[.bool false, .slice none 0 0, .slice none 0 0] 125 from (Blk.new w _ _).call hb1)
  have d0 := HB.out.cell 0
  have d1 := HB.out.cell 1
  have d2 := HB.out.cell 2
  have e0 := HB.out.free 0
  have e1 := HB.out.free 1
  have e2 := HB.out.free 2
  have HBB := hid hb1
  clear hb1 hv1
  simp at d0 d1 d2
  go_wp2_with fail
  obtain ⟨s1, s2⟩ := set3 HB.out false none a3 0 0 (limbs 1).length c3
  have f0 := s2.cell 0
  have f1 := s2.cell 1
  have f2 := s2.cell 2
  simp at f0 f1 f2
  refine bodyPost_ret (v := .agg #[.bool false, .slice none 0 0, .slice a3 (limbs 1).length c3]) (by simp [results, Tryz.results162, go_sem, f0, f1, f2]) rfl ⟨⟨_, rfl, IsQ.zero_ (s1 _ _ _ (IsN.zero _ _)) (s1 _ _ _ HV.out)⟩, ?_⟩
  exact (((((Below.refl _ _).alloc (Nat.le_refl _) _).trans (HBB.out.mono (by simp))).setCell (Nat.le_refl _) _).setCell (Nat.le_refl _) _).setCell (Nat.le_refl _) _
theorem qmk_red {m : Bool} {n d : Nat} (hn : 0 < n) (hd : 0 < d) {k : IntKind} {w : World} {N D : Value} (hg : Nat.gcd n d = 1) (h1 : IsN k w N n) (h2 : IsN k w D d) : IsQ k w (.agg #[.bool m, N, D]) (qmk m n d) :=
  IsQ.mk' hn hd (by rw [hg, Nat.div_one]; exact h1) (by rw [hg, Nat.div_one]; exact h2)
set_option maxRecDepth 100000 in
set_option maxHeartbeats 2000000 in
theorem f_Make (w : World) (m : Bool) (v u : Value) (n d : Nat) (hn : IsN .u64 w v n) (hd : IsN .u64 w u d) (h0 : 0 < d) (hln : (limbs n).length ≤ 1000000) (hld : (limbs d).length ≤ 1000000) :
    Calls Tryz.prog 110 #[.bool m, v, u] w fun e w' => RetQ .u64 (qmk m n d) e w' ∧ Below w.heap.size w w' := by
  have HN := hid hn; have HD := hid hd
  obtain ⟨a1, c1, rfl, _⟩ := hn.openI
  obtain ⟨a2, c2, rfl, _⟩ := hd.openI
  obtain ⟨k1, hk1⟩ : ∃ k, (limbs n).length = k := ⟨_, rfl⟩
  obtain ⟨k2, hk2⟩ : ∃ k, (limbs d).length = k := ⟨_, rfl⟩
  have LN := hid hln; have LD := hid hld; have H0 := hid h0
  rw [hk1] at HN ⊢
  rw [hk2] at HD ⊢
  have b0 := hid ((Below.refl w.heap.size w).alloc (Nat.le_refl _) (.cells #[.bool false, .slice none 0 0, .slice none 0 0] 125))
  have x0 := hid (Blk.new w #[.bool false, .slice none 0 0, .slice none 0 0] 125)
  have N0 := hid (HN.out.call b0.out); have D0 := hid (HD.out.call b0.out)
  clear hn hd hln hld h0 hk1 hk2
  rcases Nat.eq_zero_or_pos n with rfl | hp
  · have hq := hid (qmk_zero m d)
    rw [hq.out]
    have hz : isZ 0 = true := rfl
    go_enter Tryz.func110, Tryz.ntmps110
    go_wp2_with fail
    refine (l_Zero _ _ _ N0.out).mono ?_; rintro e w1 ⟨rfl, rfl⟩
    rw [hz]
    clear hz
    go_wp2_with fail
    refine (f_Zero _).mono ?_; rintro e w1 ⟨⟨v1, rfl, hv1⟩, hb1⟩
    obtain ⟨M, D, rfl, h2, h3⟩ := hv1.ex
    obtain ⟨a3, c3, rfl, _⟩ := h2.openI
    obtain ⟨a4, c4, rfl, _⟩ := h3.openI
    have hm : decide ((0 : Rat).num < 0) = false := rfl
    rw [hm]
    have HB := hid (x0.out.call hb1)
    have BB := hid (bnext b0.out hb1)
    have d0 := HB.out.cell 0
    have d1 := HB.out.cell 1
    have d2 := HB.out.cell 2
    have e0 := HB.out.free 0
    have e1 := HB.out.free 1
    have e2 := HB.out.free 2
    have H2 := hid h2; have H3 := hid h3
    clear hb1 hv1 h2 h3 hm
    simp at d0 d1 d2
    obtain ⟨l1, hl1⟩ : ∃ k, (limbs (0 : Rat).num.natAbs).length = k := ⟨_, rfl⟩
    obtain ⟨l2, hl2⟩ : ∃ k, (limbs (0 : Rat).den).length = k := ⟨_, rfl⟩
    rw [hl1] at H2 ⊢
    rw [hl2] at H3 ⊢
    clear hl1 hl2
    go_wp2_with fail
    obtain ⟨s1, s2⟩ := set3 HB.out false a3 a4 l1 c3 l2 c4
    have f0 := s2.cell 0
    have f1 := s2.cell 1
    have f2 := s2.cell 2
    simp at f0 f1 f2
    refine bodyPost_ret (v := .agg #[.bool false, .slice a3 l1 c3, .slice a4 l2 c4]) (by simp [results, Tryz.results110, go_sem, f0, f1, f2]) rfl ⟨⟨_, rfl, ⟨_, _, rfl, s1 _ _ _ H2.out, s1 _ _ _ H3.out⟩⟩, ?_⟩
    exact ((BB.out.setCell (Nat.le_refl _) _).setCell (Nat.le_refl _) _).setCell (Nat.le_refl _) _
  · have hz : isZ n = false := by unfold isZ; simpa using (by omega : n ≠ 0)
    have HP := hid hp
    clear hp
    by_cases h1 : d = 1
    · have ho : isO d = true := isO_iff.2 h1
      have HG := hid (show Nat.gcd n d = 1 by rw [h1, Nat.gcd_one_right])
      clear h1
      go_enter Tryz.func110, Tryz.ntmps110
      go_wp2_with fail
      refine (l_Zero _ _ _ N0.out).mono ?_; rintro e w1 ⟨rfl, rfl⟩
      rw [hz]
      clear hz
      go_wp2_with fail
      refine (l_One _ _ _ D0.out).mono ?_; rintro e w1 ⟨rfl, rfl⟩
      rw [ho]
      clear ho
      go_wp2_with fail
      have hB := Blk.new w #[.bool m, .slice a1 k1 c1, .slice a2 k2 c2] 125
      have f0 := hB.cell 0
      have f1 := hB.cell 1
      have f2 := hB.cell 2
      simp at f0 f1 f2
      have b1 := (Below.refl w.heap.size w).alloc (Nat.le_refl _) (.cells #[.bool m, .slice a1 k1 c1, .slice a2 k2 c2] 125)
      refine bodyPost_ret (v := .agg #[.bool m, .slice a1 k1 c1, .slice a2 k2 c2]) (by simp [results, Tryz.results110, go_sem]) rfl ⟨⟨_, rfl, qmk_red HP.out H0.out HG.out (HN.out.call b1) (HD.out.call b1)⟩, b1⟩
    · have ho : isO d = false := by unfold isO; simpa using h1
      obtain ⟨g, hg⟩ : ∃ g, Nat.gcd n d = g := ⟨_, rfl⟩
      have hgp : 0 < g := hg ▸ Nat.gcd_pos_of_pos_left d HP.out
      have HG := hid hg; have HGP := hid hgp
      clear h1 hg hgp
      go_enter Tryz.func110, Tryz.ntmps110
      go_wp2_with fail
      refine (l_Zero _ _ _ N0.out).mono ?_; rintro e w1 ⟨rfl, rfl⟩
      rw [hz]
      clear hz
      go_wp2_with fail
      refine (l_One _ _ _ D0.out).mono ?_; rintro e w1 ⟨rfl, rfl⟩
      rw [ho]
      clear ho
      go_wp2_with fail
      refine (l_Gcd _ _ _ _ _ N0.out D0.out LN.out LD.out).mono ?_
      rintro e w1 ⟨⟨v1, rfl, hv1⟩, hb1⟩
      rw [HG.out] at hv1
      have x1 := hid (x0.out.call hb1)
      have b1 := hid (bnext b0.out hb1)
      have N1 := hid (N0.out.call hb1); have D1 := hid (D0.out.call hb1); have G1 := hid hv1
      clear hb1 hv1
      obtain ⟨a5, c5, rfl, _⟩ := G1.out.openI
      obtain ⟨k5, hk5⟩ : ∃ k, (limbs g).length = k := ⟨_, rfl⟩
      rw [hk5] at G1 ⊢
      clear hk5
      go_wp2_with fail
      refine (l_One _ _ _ G1.out).mono ?_; rintro e w2 ⟨rfl, rfl⟩
      by_cases hg1 : g = 1
      · have ho : isO g = true := isO_iff.2 hg1
        have HG1 := hid (show Nat.gcd n d = 1 by rw [HG.out, hg1])
        rw [ho]
        have d0 := x1.out.cell 0
        have d1 := x1.out.cell 1
        have d2 := x1.out.cell 2
        have e0 := x1.out.free 0
        have e1 := x1.out.free 1
        have e2 := x1.out.free 2
        simp at d0 d1 d2
        clear ho hg1
        go_wp2_with fail
        obtain ⟨s1, s2⟩ := set3 x1.out m a1 a2 k1 c1 k2 c2
        have f0 := s2.cell 0
        have f1 := s2.cell 1
        have f2 := s2.cell 2
        simp at f0 f1 f2
        refine bodyPost_ret (v := .agg #[.bool m, .slice a1 k1 c1, .slice a2 k2 c2]) (by simp [results, Tryz.results110, go_sem, f0, f1, f2]) rfl ⟨⟨_, rfl, qmk_red HP.out H0.out HG1.out (s1 _ _ _ N1.out) (s1 _ _ _ D1.out)⟩, ?_⟩
        exact ((b1.out.setCell (Nat.le_refl _) _).setCell (Nat.le_refl _) _).setCell (Nat.le_refl _) _
      · have ho : isO g = false := by unfold isO; simpa using hg1
        rw [ho]
        clear ho hg1
        go_wp2_with fail
        refine (l_DivMod _ _ _ n g N1.out G1.out HGP.out LN.out).mono ?_
        rintro e w2 ⟨⟨v2, v3, rfl, hv2, -⟩, hb2⟩
        have x2 := hid (x1.out.call hb2); have b2 := hid (bnext b1.out hb2); have D2 := hid (D1.out.call hb2); have G2 := hid (G1.out.call hb2); have V2 := hid hv2
        clear hb2 hv2
        go_wp2_with fail
        refine (l_DivMod _ _ _ d g D2.out G2.out HGP.out LD.out).mono ?_
        rintro e w3 ⟨⟨v4, v5, rfl, hv4, -⟩, hb3⟩
        have x3 := hid (x2.out.call hb3); have b3 := hid (bnext b2.out hb3); have W2 := hid (V2.out.call hb3); have W4 := hid hv4
        clear hb3 hv4
        obtain ⟨a6, c6, rfl, _⟩ := W2.out.openI
        obtain ⟨a7, c7, rfl, _⟩ := W4.out.openI
        have d0 := x3.out.cell 0
        have d1 := x3.out.cell 1
        have d2 := x3.out.cell 2
        have e0 := x3.out.free 0
        have e1 := x3.out.free 1
        have e2 := x3.out.free 2
        simp at d0 d1 d2
        go_wp2_with fail
        obtain ⟨s1, s2⟩ := set3 x3.out m a6 a7 (limbs (n / g)).length c6 (limbs (d / g)).length c7
        have f0 := s2.cell 0
        have f1 := s2.cell 1
        have f2 := s2.cell 2
        simp at f0 f1 f2
        refine bodyPost_ret (v := .agg #[.bool m, .slice a6 (limbs (n / g)).length c6, .slice a7 (limbs (d / g)).length c7]) (by simp [results, Tryz.results110, go_sem, f0, f1, f2]) rfl ⟨⟨_, rfl, IsQ.mk' HP.out H0.out (HG.out ▸ s1 _ _ _ W2.out) (HG.out ▸ s1 _ _ _ W4.out)⟩, ?_⟩
        exact ((b3.out.setCell (Nat.le_refl _) _).setCell (Nat.le_refl _) _).setCell (Nat.le_refl _) _
end Go.Proofs.YtccalhlhdiapiaaGreatDoor
namespace Go.Proofs.YtccalhlhdiapiaaGreatDoor
open Go.RowKit
open Go.Lib (decDigits nDigits)
set_option linter.unusedVariables false
set_option linter.unusedSimpArgs false
theorem outB_ov {q : Rat} (h : ovQ q) : outB q = ⟨#[]⟩ := if_pos h
theorem outB_ok {q : Rat} (h : ¬ ovQ q) : outB q = txQ q := if_neg h
theorem outE_ov {q : Rat} (h : ovQ q) : outE q = 5 := if_pos h
theorem outE_ok {q : Rat} (h : ¬ ovQ q) : outE q = 0 := if_neg h
theorem ba_append (a b : ByteArray) : (a ++ b).data.toList = a.data.toList ++ b.data.toList := by simp
theorem txB_ff (n : Nat) : txB false n 1 = numB n := by apply ba_ext; simp [txB, numB]
theorem txB_tf (n : Nat) : txB true n 1 = ⟨#[45]⟩ ++ numB n := by apply ba_ext; rw [ba_append, txB_list, numB_list]; simp
theorem txB_ft (n d : Nat) (h : d ≠ 1) : txB false n d = numB n ++ (⟨#[47]⟩ ++ numB d) := by apply ba_ext; rw [ba_append, ba_append, txB_list, numB_list, numB_list, if_neg h]; simp
theorem txB_tt (n d : Nat) (h : d ≠ 1) : txB true n d = ⟨#[45]⟩ ++ numB n ++ (⟨#[47]⟩ ++ numB d) := by apply ba_ext; rw [ba_append, ba_append, ba_append, txB_list, numB_list, numB_list, if_neg h]; simp
set_option maxRecDepth 100000 in
set_option maxHeartbeats 2000000 in
theorem f_Num (w : World) (v : Value) (q : Rat) (h : IsQ .u64 w v q) (h1 : (limbs q.num.natAbs).length ≤ 1000000) (h2 : (limbs q.den).length ≤ 1000000) (hL : Lay w) :
    Calls Tryz.prog 112 #[v] w fun e w' => e = .returned (.tuple #[.string (outB q), .int .i64 (outE q)]) ∧ Below w.heap.size w w' := by
  obtain ⟨N, D, rfl, hn, hd⟩ := h.ex
  obtain ⟨m, hm⟩ : ∃ m, decide (q.num < 0) = m := ⟨_, rfl⟩
  have HN := hid hn; have HD := hid hd; have HM := hid hm; have HL := hid hL; have L1 := hid h1; have L2 := hid h2
  rw [hm]
  obtain ⟨a1, c1, rfl, _⟩ := hn.openI
  obtain ⟨a2, c2, rfl, _⟩ := hd.openI
  obtain ⟨k1, hk1⟩ : ∃ k, (limbs q.num.natAbs).length = k := ⟨_, rfl⟩
  obtain ⟨k2, hk2⟩ : ∃ k, (limbs q.den).length = k := ⟨_, rfl⟩
  rw [hk1] at HN ⊢
  rw [hk2] at HD ⊢
  have b0 := hid ((Below.refl w.heap.size w).alloc (Nat.le_refl _) (.cells #[.bool m, .slice a1 k1 c1, .slice a2 k2 c2] 125))
  have x0 := hid (Blk.new w #[.bool m, .slice a1 k1 c1, .slice a2 k2 c2] 125)
  have N0 := hid (HN.out.call b0.out); have D0 := hid (HD.out.call b0.out)
  clear hn hd hm h hk1 hk2 hL h1 h2
  by_cases o1 : 4000 < nDigits q.num.natAbs
  · have ho : ovQ q := .inl o1
    rw [outB_ov ho, outE_ov ho]
    have q0 : decide ((4000 : Int) < (nDigits q.num.natAbs : Nat)) = true := by simp; omega
    clear o1 ho
    go_enter Tryz.func112, Tryz.ntmps112
    go_wp2_with fail
    refine (l_Digits _ _ _ N0.out (HL.out.call b0.out) L1.out).mono ?_; rintro e w1 ⟨rfl, hb1⟩
    have b1 := hid (bnext b0.out hb1); clear hb1
    go_wp2_with fail
    go_ret2
    exact ⟨rfl, b1.out⟩
  · have q0 : decide ((4000 : Int) < (nDigits q.num.natAbs : Nat)) = false := by simp; omega
    by_cases o2 : 4000 < nDigits q.den
    · have ho : ovQ q := .inr o2
      rw [outB_ov ho, outE_ov ho]
      have q1 : decide ((4000 : Int) < (nDigits q.den : Nat)) = true := by simp; omega
      clear o1 ho o2
      go_enter Tryz.func112, Tryz.ntmps112
      go_wp2_with fail
      refine (l_Digits _ _ _ N0.out (HL.out.call b0.out) L1.out).mono ?_; rintro e w1 ⟨rfl, hb1⟩
      have b1 := hid (bnext b0.out hb1); have D1 := hid (D0.out.call hb1)
      have x1 := x0.out.call hb1
      have r2 := x1.cell 2
      simp at r2
      clear hb1 x1
      go_wp2_with fail
      refine (l_Digits _ _ _ D1.out (HL.out.call b1.out) L2.out).mono ?_; rintro e w2 ⟨rfl, hb2⟩
      have b2 := hid (bnext b1.out hb2); clear hb2 r2
      go_wp2_with fail
      go_ret2
      exact ⟨rfl, b2.out⟩
    · have ho : ¬ ovQ q := fun h => h.elim o1 o2
      rw [outB_ok ho, outE_ok ho]
      have q1 : decide ((4000 : Int) < (nDigits q.den : Nat)) = false := by simp; omega
      obtain ⟨z, hz⟩ : ∃ z, isO q.den = z := ⟨_, rfl⟩
      have HO := fun W h => hid (l_One W (.slice a2 k2 c2) q.den h)
      rw [hz] at HO
      have HT : Hid (txQ q = txB m q.num.natAbs q.den) := by rw [← HM.out]; rfl
      have HZ := hid hz
      rw [HT.out]
      obtain ⟨T, hT⟩ : ∃ T, txB m q.num.natAbs q.den = T := ⟨_, rfl⟩
      have HTT := hid hT
      rw [hT]
      have HS1 := fun W hv hL => hid (l_String W (.slice a1 k1 c1) q.num.natAbs hv hL L1.out)
      have HS2 := fun W hv hL => hid (l_String W (.slice a2 k2 c2) q.den hv hL L2.out)
      have en : (⟨(Lib.decDigits q.num.natAbs).toArray⟩ : ByteArray) = numB q.num.natAbs := rfl
      have ed : (⟨(Lib.decDigits q.den).toArray⟩ : ByteArray) = numB q.den := rfl
      rw [en] at HS1
      rw [ed] at HS2
      obtain ⟨sn, hsn⟩ : ∃ s, numB q.num.natAbs = s := ⟨_, rfl⟩
      obtain ⟨sd, hsd⟩ : ∃ s, numB q.den = s := ⟨_, rfl⟩
      rw [hsn] at HS1
      rw [hsd] at HS2
      have HSN := hid hsn; have HSD := hid hsd
      have hs1 : sn.size ≤ 4000 := by rw [← hsn, numB_size]; omega
      have hs2 : sd.size ≤ 4000 := by rw [← hsd, numB_size]; omega
      clear o1 ho o2 hT hz en ed hsn hsd
      go_enter Tryz.func112, Tryz.ntmps112
      go_wp2_with fail
      refine (l_Digits _ _ _ N0.out (HL.out.call b0.out) L1.out).mono ?_; rintro e w1 ⟨rfl, hb1⟩
      have b1 := hid (bnext b0.out hb1); have D1 := hid (D0.out.call hb1); have x1 := hid (x0.out.call hb1); have N1 := hid (N0.out.call hb1)
      have r2 := x1.out.cell 2
      simp at r2
      clear hb1
      go_wp2_with fail
      refine (l_Digits _ _ _ D1.out (HL.out.call b1.out) L2.out).mono ?_; rintro e w2 ⟨rfl, hb2⟩
      have b2 := hid (bnext b1.out hb2); have D2 := hid (D1.out.call hb2); have x2 := hid (x1.out.call hb2); have N2 := hid (N1.out.call hb2)
      have r1 := x2.out.cell 1
      simp at r1
      clear hb2 r2
      go_wp2_with fail
      refine (HS1 _ N2.out (HL.out.call b2.out)).out.mono ?_; rintro e w3 ⟨rfl, hb3⟩
      have b3 := hid (bnext b2.out hb3); have D3 := hid (D2.out.call hb3); have x3 := hid (x2.out.call hb3)
      have r0 := x3.out.cell 0
      have r2 := x3.out.cell 2
      simp at r0 r2
      clear hb3 r1 HS1
      cases m
      · go_wp2_with fail
        refine (HO _ D3.out).out.mono ?_; rintro e w4 ⟨rfl, rfl⟩
        cases z
        · go_wp2_with fail
          refine (HS2 _ D3.out (HL.out.call b3.out)).out.mono ?_; rintro e w5 ⟨rfl, hb5⟩
          have b5 := hid (bnext b3.out hb5); clear hb5 r0 r2
          go_wp2_with fail
          go_ret2
          have hTe : T = sn ++ (⟨#[47]⟩ ++ sd) := by rw [← HTT.out, txB_ft _ _ (of_decide_eq_false HZ.out), HSN.out, HSD.out]
          exact ⟨by rw [hTe]; rfl, b5.out⟩
        · go_wp2_with fail
          go_ret2
          have hTe : T = sn := by rw [← HTT.out, isO_iff.1 HZ.out, txB_ff, HSN.out]
          exact ⟨by rw [hTe]; rfl, b3.out⟩
      · go_wp2_with fail
        refine (HO _ D3.out).out.mono ?_; rintro e w4 ⟨rfl, rfl⟩
        cases z
        · go_wp2_with fail
          refine (HS2 _ D3.out (HL.out.call b3.out)).out.mono ?_; rintro e w5 ⟨rfl, hb5⟩
          have b5 := hid (bnext b3.out hb5); clear hb5 r0 r2
          go_wp2_with fail
          go_ret2
          have hTe : T = ⟨#[45]⟩ ++ sn ++ (⟨#[47]⟩ ++ sd) := by rw [← HTT.out, txB_tt _ _ (of_decide_eq_false HZ.out), HSN.out, HSD.out]
          exact ⟨by rw [hTe]; rfl, b5.out⟩
        · go_wp2_with fail
          go_ret2
          have hTe : T = ⟨#[45]⟩ ++ sn := by rw [← HTT.out, isO_iff.1 HZ.out, txB_tf, HSN.out]
          exact ⟨by rw [hTe]; rfl, b3.out⟩
end Go.Proofs.YtccalhlhdiapiaaGreatDoor
namespace Go.Proofs.YtccalhlhdiapiaaGreatDoor
open Go.RowKit
open Go.Lib (decDigits nDigits)
set_option linter.unusedVariables false
set_option linter.unusedSimpArgs false
def mkE (n d : ByteArray) : Int := if iB n = false then 3 else if 4000 < (iD n).size then 5 else if errN d.data.toList ≠ 0 then errN d.data.toList else if d = ⟨#[48]⟩ then 6 else outE (qmk (iM n) (bN (iD n)) (bN d))
def mkB (n d : ByteArray) : ByteArray := if iB n = false then ⟨#[]⟩ else if 4000 < (iD n).size then ⟨#[]⟩ else if errN d.data.toList ≠ 0 then ⟨#[]⟩ else if d = ⟨#[48]⟩ then ⟨#[]⟩ else outB (qmk (iM n) (bN (iD n)) (bN d))
theorem qmk_len {m : Bool} {n d L : Nat} (hd : 0 < d) (h1 : (limbs n).length ≤ L) (h2 : (limbs d).length ≤ L) : (limbs (qmk m n d).num.natAbs).length ≤ L ∧ (limbs (qmk m n d).den).length ≤ L := by
  rw [qmk_num hd, qmk_den hd, sgn_natAbs]
  exact ⟨Nat.le_trans (limbs_length_mono (Nat.div_le_self _ _)) h1, Nat.le_trans (limbs_length_mono (Nat.div_le_self _ _)) h2⟩
set_option maxRecDepth 100000 in
set_option maxHeartbeats 2000000 in
theorem q_Make (w : World) (n d : ByteArray) (hn : n.size ≤ 1000000) (hd : d.size ≤ 1000000) (hL : Lay w) :
    Calls Tryz.prog 65 #[.string n, .string d] w fun e w' => e = .returned (.tuple #[.string (mkB n d), .int .i64 (mkE n d)]) ∧ Below w.heap.size w w' := by
  have HL := hid hL
  have hz := iD_size n
  have HI := fun V => hid (f_Integer V n (by omega))
  have HC := fun V => hid (n_Check V d (by omega))
  have HP1 := fun V h => hid (l_Parse V (iD n) h (by omega))
  have HP2 := fun V h => hid (l_Parse V d h hd)
  cases hb : iB n
  · have e1 : mkB n d = ⟨#[]⟩ := if_pos hb
    have e2 : mkE n d = 3 := if_pos hb
    rw [e1, e2]
    rw [hb] at HI
    clear e1 e2 hb hz HP1 HP2 hn hd hL
    go_enter Tryz.func65, Tryz.ntmps65
    go_wp2_with fail
    refine (HI _).out.mono ?_; rintro e w1 ⟨rfl, hb1⟩
    have b1 := hid hb1; clear hb1
    go_wp2_with fail
    go_ret2
    exact ⟨rfl, b1.out⟩
  · have nb : ¬ iB n = false := by simp [hb]
    by_cases h1 : 4000 < (iD n).size
    · have e1 : mkB n d = ⟨#[]⟩ := by rw [mkB, if_neg nb, if_pos h1]
      have e2 : mkE n d = 5 := by rw [mkE, if_neg nb, if_pos h1]
      have q0 : decide ((4000 : Int) < ((iD n).size : Nat)) = true := by simp; omega
      rw [e1, e2]
      rw [hb] at HI
      clear e1 e2 hb hz HP1 HP2 hn hd hL h1 nb
      go_enter Tryz.func65, Tryz.ntmps65
      go_wp2_with fail
      refine (HI _).out.mono ?_; rintro e w1 ⟨rfl, hb1⟩
      have b1 := hid hb1; clear hb1
      go_wp2_with fail
      go_ret2
      exact ⟨rfl, b1.out⟩
    · have q0 : decide ((4000 : Int) < ((iD n).size : Nat)) = false := by simp; omega
      by_cases h2 : errN d.data.toList = 0
      · have nc : ¬ errN d.data.toList ≠ 0 := fun h => h h2
        by_cases h3 : d = ⟨#[48]⟩
        · have e1 : mkB n d = ⟨#[]⟩ := by rw [mkB, if_neg nb, if_neg h1, if_neg nc, if_pos h3]
          have e2 : mkE n d = 6 := by rw [mkE, if_neg nb, if_neg h1, if_neg nc, if_pos h3]
          rw [e1, e2]
          rw [hb] at HI
          rw [h2] at HC
          clear e1 e2 hb hz HP1 HP2 hn hd hL h1 nb nc h2
          subst h3
          go_enter Tryz.func65, Tryz.ntmps65
          go_wp2_with fail
          refine (HI _).out.mono ?_; rintro e w1 ⟨rfl, hb1⟩
          have b1 := hid hb1; clear hb1
          go_wp2_with fail
          refine (HC _).out.mono ?_; rintro e w2 ⟨rfl, hb2⟩
          have b2 := hid (bnext b1.out hb2); clear hb2
          go_wp2_with fail
          go_ret2
          exact ⟨rfl, b2.out⟩
        · have e1 : mkB n d = outB (qmk (iM n) (bN (iD n)) (bN d)) := by rw [mkB, if_neg nb, if_neg h1, if_neg nc, if_neg h3]
          have e2 : mkE n d = outE (qmk (iM n) (bN (iD n)) (bN d)) := by rw [mkE, if_neg nb, if_neg h1, if_neg nc, if_neg h3]
          rw [e1, e2]
          have d1 := fB_dig (iB_form hb)
          obtain ⟨d2, d3, d4⟩ := errN_dig h2
          have hdp : 0 < bN d := formZ (formB_iff.2 (by obtain ⟨x, hx, _⟩ := errN_zero.1 h2; exact isForm_iff.2 ⟨x, hx⟩)) h3
          have l1 : (limbs (bN (iD n))).length ≤ 1000 := dv_limbs d1 (by rw [list_size]; omega)
          have l2 : (limbs (bN d)).length ≤ 1000 := d4
          have HP1 := fun V => HP1 V d1
          have HP2 := fun V => HP2 V d2
          have HQ := qmk_len (m := iM n) hdp l1 l2
          have HM := fun V v u hv hu => hid (f_Make V (iM n) v u (bN (iD n)) (bN d) hv hu hdp (by omega) (by omega))
          obtain ⟨Q, hQ⟩ : ∃ Q, qmk (iM n) (bN (iD n)) (bN d) = Q := ⟨_, rfl⟩
          rw [hQ] at HQ HM ⊢
          have HN := fun V v hv hL => hid (f_Num V v Q hv (by omega) (by omega) hL)
          rw [hb] at HI
          rw [h2] at HC
          have i1 := ne_lit (l := [48]) h3
          clear e1 e2 hb hz hn hd hL h1 nb nc h2 h3 d1 d2 d3 d4 hdp l1 l2 HQ hQ
          go_enter Tryz.func65, Tryz.ntmps65
          go_wp2_with fail
          refine (HI _).out.mono ?_; rintro e w1 ⟨rfl, hb1⟩
          have b1 := hid hb1; clear hb1
          go_wp2_with fail
          refine (HC _).out.mono ?_; rintro e w2 ⟨rfl, hb2⟩
          have b2 := hid (bnext b1.out hb2); clear hb2
          go_wp2_with fail
          refine (HP1 _).out.mono ?_; rintro e w3 ⟨⟨v3, rfl, hv3⟩, hb3⟩
          have b3 := hid (bnext b2.out hb3); have V3 := hid hv3; clear hb3 hv3
          go_wp2_with fail
          refine (HP2 _).out.mono ?_; rintro e w4 ⟨⟨v4, rfl, hv4⟩, hb4⟩
          have b4 := hid (bnext b3.out hb4); have V4 := hid hv4; have W3 := hid (V3.out.call hb4); clear hb4 hv4
          go_wp2_with fail
          refine (HM _ _ _ W3.out V4.out).out.mono ?_; rintro e w5 ⟨⟨v5, rfl, hv5⟩, hb5⟩
          have b5 := hid (bnext b4.out hb5); have V5 := hid hv5; clear hb5 hv5
          go_wp2_with fail
          refine (HN _ _ V5.out (HL.out.call b5.out)).out.mono ?_; rintro e w6 ⟨rfl, hb6⟩
          have b6 := hid (bnext b5.out hb6); clear hb6
          go_wp2_with fail
          go_ret2
          exact ⟨rfl, b6.out⟩
      · have e1 : mkB n d = ⟨#[]⟩ := by rw [mkB, if_neg nb, if_neg h1, if_pos h2]
        have e2 : mkE n d = errN d.data.toList := by rw [mkE, if_neg nb, if_neg h1, if_pos h2]
        rw [e1, e2]
        rw [hb] at HI
        obtain ⟨x, hx⟩ : ∃ x, errN d.data.toList = x := ⟨_, rfl⟩
        rw [hx] at HC h2 ⊢
        have q1 : (x == 0) = false := by simpa using h2
        have q2 : (x != 0) = true := by simpa using h2
        clear e1 e2 hb hz HP1 HP2 hn hd hL h1 nb h2 hx
        go_enter Tryz.func65, Tryz.ntmps65
        go_wp2_with fail
        refine (HI _).out.mono ?_; rintro e w1 ⟨rfl, hb1⟩
        have b1 := hid hb1; clear hb1
        go_wp2_with fail
        refine (HC _).out.mono ?_; rintro e w2 ⟨rfl, hb2⟩
        have b2 := hid (bnext b1.out hb2); clear hb2
        go_wp2_with fail
        go_ret2
        exact ⟨rfl, b2.out⟩
end Go.Proofs.YtccalhlhdiapiaaGreatDoor
namespace Go.Proofs.YtccalhlhdiapiaaGreatDoor
open Go.RowKit
open Go.Lib (decDigits nDigits)
set_option linter.unusedVariables false
set_option linter.unusedSimpArgs false
theorem mk_num {a b : Nat} (ha : nDigits a ≤ 4000) (hb : nDigits b ≤ 4000) (h0 : b ≠ 0) : mkB (numB a) (numB b) = outB (qmk false a b) ∧ mkE (numB a) (numB b) = outE (qmk false a b) := by
  have e1 : iM (numB a) = false := by
    unfold iM Lib.hasPrefix
    rw [numB_list]
    exact minus_dec a
  have e2 : iD (numB a) = numB a := iD_plain e1
  have e3 : iB (numB a) = true := by
    unfold iB
    rw [e1, e2, fB_num]; rfl
  have e4 : errN (numB b).data.toList = 0 := errN_numB hb
  have e5 : ¬ (numB b = ⟨#[48]⟩) := by rw [← numB_zero]; exact numB_ne h0
  have e6 : ¬ 4000 < (iD (numB a)).size := by rw [e2, numB_size]; omega
  constructor
  · rw [mkB, if_neg (by simp [e3]), if_neg e6, if_neg (fun h => h e4), if_neg e5, e1, e2, bN_num, bN_num]
  · rw [mkE, if_neg (by simp [e3]), if_neg e6, if_neg (fun h => h e4), if_neg e5, e1, e2, bN_num, bN_num]
end Go.Proofs.YtccalhlhdiapiaaGreatDoor
namespace Go.Proofs.YtccalhlhdiapiaaGreatDoor
open Go.RowKit
open Go.Lib (decDigits nDigits)
set_option linter.unusedVariables false
set_option linter.unusedSimpArgs false
theorem NoInt.slice (a : Option Addr) (n c : Nat) : NoInt #[.slice a n c] := by
  intro i k x h
  rcases i with _ | i <;> simp at h
theorem NoInt.bool (m : Bool) : NoInt #[.bool m] := by
  intro i k x h
  rcases i with _ | i <;> simp at h
structure PowS (w : World) (bs bf bl : Nat) (sq : Nat) (fits : Bool) : Prop where
  sq : ∃ a n c, Blk w bs #[.slice a n c] 119 ∧ IsN .u64 w (.slice a n c) sq
  fits : Blk w bf #[.bool fits] 4
  lim : Blk w bl #[.int .i64 4000] 3
  n1 : bs ≠ bf
  n2 : bs ≠ bl
  n3 : bf ≠ bl
set_option maxRecDepth 100000 in
set_option maxHeartbeats 1000000 in
theorem l_Pow1 (w : World) (bs bf bl sq B : Nat) (f : Bool) (h : PowS w bs bf bl sq f) (hs : B ≤ bs) (hf : B ≤ bf) (hB : B ≤ w.heap.size) (hlen : (limbs sq).length ≤ 100000) (hL : Lay w) (hLB : LayLt B) :
    Calls Tryz.prog 183 #[.pointer (some ⟨bs, 0, none⟩), .pointer (some ⟨bl, 0, none⟩), .pointer (some ⟨bf, 0, none⟩)] w fun e w' =>
      (∃ v, e = .returned v) ∧ PowS w' bs bf bl (sq * sq) (decide (nDigits (sq * sq) ≤ 4000)) ∧ (∀ k v x, IsN k w v x → IsN k w' v x) ∧ Below B w w' := by
  obtain ⟨⟨a, n, c, hbs, hv⟩, hbf, hbl, n1, n2, n3⟩ := h
  have c0 : w.cell? ⟨bs, 0, none⟩ = some (.slice a n c) := hbs.cell 0
  have c1 := hbs.free 0
  have c2 : w.cell? ⟨bl, 0, none⟩ = some (.int .i64 4000) := hbl.cell 0
  have HBS := hid hbs; have HBF := hid hbf; have HBL := hid hbl; have HV := hid hv; have N1 := hid n1; have N2 := hid n2; have N3 := hid n3
  have HS := hid hs; have HF := hid hf; have HB := hid hB; have HLEN := hid hlen; have HL := hid hL; have HLB := hid hLB
  have l2 := len_mul hlen hlen
  have HLM := hid (show (limbs (sq * sq)).length ≤ 1000000 by omega)
  obtain ⟨S, hS⟩ : ∃ S, sq * sq = S := ⟨_, rfl⟩
  have HM := fun V h => hid (l_Mul V (.slice a n c) (.slice a n c) sq sq h h (by omega) (by omega))
  rw [hS] at HM HLM ⊢
  clear hbs hv hbf hbl n1 n2 n3 hs hf hB hlen hL l2 hS hLB
  go_enter Tryz.func183, Tryz.ntmps183
  go_wp2_with fail
  refine (HM _ HV.out).out.mono ?_; rintro e w1 ⟨⟨v1, rfl, hv1⟩, hb1⟩
  obtain ⟨a1, k1, d1, rfl⟩ : ∃ a k d, v1 = .slice a k d := by
    obtain ⟨a, c, e, _⟩ := hv1.openI
    exact ⟨_, _, _, e⟩
  have S1 := hid (HBS.out.call hb1); have F1 := hid (HBF.out.call hb1); have T1 := hid (HBL.out.call hb1); have B1 := hid hb1; have V1 := hid hv1
  have e0 := S1.out.free 0
  have e1 := S1.out.cell 0
  simp at e1
  clear hb1 hv1 HM c0 c1 c2
  go_wp2_with fail
  obtain ⟨w2, hw2⟩ : ∃ w2, w1.setCell ⟨bs, 0, none⟩ (.slice a1 k1 d1) = w2 := ⟨_, rfl⟩
  have s2 : Blk w2 bs #[.slice a1 k1 d1] 119 := by rw [← hw2]; exact S1.out.set 0 _
  have f2 : Blk w2 bf #[.bool f] 4 := by rw [← hw2]; exact F1.out.other (fun e => N1.out e) _
  have t2 : Blk w2 bl #[.int .i64 4000] 3 := by rw [← hw2]; exact T1.out.other (fun e => N2.out e) _
  have v2 : IsN .u64 w2 (.slice a1 k1 d1) S := by rw [← hw2]; exact V1.out.setQ S1.out (NoInt.slice _ _ _) 0 _
  have k2 : ∀ k v x, IsN k w v x → IsN k w2 v x := fun k v x h => by rw [← hw2]; exact (h.call B1.out).setQ S1.out (NoInt.slice _ _ _) 0 _
  have b2 : Below B w w2 := by rw [← hw2]; exact (B1.out.mono HB.out).setCell HS.out _
  have hsz : w.heap.size ≤ w2.heap.size := by rw [← hw2]; simpa [World.setCell] using B1.out.size
  rw [hw2]
  have S2 := hid s2; have F2 := hid f2; have T2 := hid t2; have V2 := hid v2; have K2 := hid k2; have B2 := hid b2; have SZ := hid hsz
  have L2 : Hid (Lay w2) := HL.out.below b2 HLB.out
  clear s2 f2 t2 v2 k2 b2 hw2 e0 e1 hsz
  have hS : w2.drew.cell? ⟨bs, 0, none⟩ = some (.slice a1 k1 d1) ∧ w2.drew.cell? ⟨bl, 0, none⟩ = some (.int .i64 4000) := ⟨S2.out.cell 0, T2.out.cell 0⟩
  refine held_plain [0, 2] 3 (fun W' => W'.cell? ⟨bs, 0, none⟩ = some (.slice a1 k1 d1) ∧ W'.cell? ⟨bl, 0, none⟩ = some (.int .i64 4000)) (by kernel_rfl) (by kernel_rfl) (by kernel_rfl) (by kernel_rfl) hS ?_
  iterate 2
    refine ⟨_, rfl, ?_⟩
    apply Exists.intro
    refine ⟨.inl ⟨by rfl, ?_⟩, ?_⟩
    · (intro W' hW'; obtain ⟨q1, q2⟩ := hW'; go_simp; try (with_reducible rfl))
    (dsimp only [Act.put]; try simp only [List.setIfInBounds_toArray, List.set_cons_zero, List.set_cons_succ])
  clear hS
  refine held_one (i := 1) (by kernel_rfl) (by rfl) (by rfl) ?_
  go_wp2_with fail
  refine (l_Digits _ _ S (V2.out.call (Below.refl _ _).drew) (L2.out.call (Below.refl _ _).drew) HLM.out).mono ?_; rintro e w3 ⟨rfl, hb3⟩
  have B3 := hid (show Below w2.heap.size w2 w3 from (Below.refl _ _).drew.trans hb3)
  have S3 := hid (S2.out.call B3.out); have F3 := hid (F2.out.call B3.out); have T3 := hid (T2.out.call B3.out); have V3 := hid (V2.out.call B3.out)
  have hS : w3.cell? ⟨bs, 0, none⟩ = some (.slice a1 k1 d1) ∧ w3.cell? ⟨bl, 0, none⟩ = some (.int .i64 4000) := ⟨S3.out.cell 0, T3.out.cell 0⟩
  clear hb3
  go_wp2_with fail
  refine ⟨hS, ?_⟩
  refine held_more (is := [3]) (g := 1) (by kernel_rfl) rfl hS (by kernel_rfl) ?_
  iterate 1
    refine ⟨_, rfl, ?_⟩
    apply Exists.intro
    refine ⟨.inl ⟨by rfl, ?_⟩, ?_⟩
    · (intro W' hW'; clear hW'; go_simp; try (with_reducible rfl))
    (dsimp only [Act.put]; try simp only [List.setIfInBounds_toArray, List.set_cons_zero, List.set_cons_succ])
  refine held_one (i := 4) (by kernel_rfl) (by rfl) (by rfl) ?_
  have g0 := F3.out.free 0
  have g1 := F3.out.cell 0
  simp at g1
  clear hS
  go_wp2_with fail
  have s4 := S3.out.other (a := ⟨bf, 0, none⟩) (fun e => N1.out e.symm) (.bool (decide ((nDigits S : Int) ≤ 4000)))
  have f4 := F3.out.set 0 (.bool (decide ((nDigits S : Int) ≤ 4000)))
  have t4 := T3.out.other (a := ⟨bf, 0, none⟩) (fun e => N3.out e) (.bool (decide ((nDigits S : Int) ≤ 4000)))
  refine ⟨⟨s4.cell 0, t4.cell 0⟩, ?_⟩
  refine wpAnyH_done (by kernel_rfl) ?_ _
  simp only [Only]
  go_wp2_with fail
  go_end0
  refine ⟨⟨_, rfl⟩, ⟨⟨a1, k1, d1, s4, V3.out.setQ F3.out (NoInt.bool _) 0 _⟩, ?_, t4, N1.out, N2.out, N3.out⟩, ?_, ?_⟩
  · have e : decide ((nDigits S : Int) ≤ 4000) = decide (nDigits S ≤ 4000) := decide_eq_decide.2 (by omega)
    rw [← e]
    exact f4
  · intro k v x h
    exact ((K2.out k v x h).call B3.out).setQ F3.out (NoInt.bool _) 0 _
  · exact (B2.out.trans (B3.out.mono (Nat.le_trans HB.out SZ.out))).setCell HF.out _
end Go.Proofs.YtccalhlhdiapiaaGreatDoor
namespace Go.Proofs.YtccalhlhdiapiaaGreatDoor
open Go.RowKit
open Go.Lib (decDigits nDigits)
set_option linter.unusedVariables false
set_option linter.unusedSimpArgs false
structure PowI (A sq out n : Nat) (fits : Bool) : Prop where
  eq : out * sq ^ n = A
  two : 2 ≤ sq
  n1 : 1 ≤ n
  small : nDigits out ≤ 4000
  fit : fits = false → 4000 < nDigits sq
  len : fits = true → (limbs sq).length ≤ 100000
  lim : (limbs sq).length ≤ 200000
  pos : 1 ≤ out
theorem PowI.start {a n : Nat} (ha : 2 ≤ a) (hn : 1 ≤ n) (hl : (limbs a).length ≤ 100000) : PowI (a ^ n) a 1 n true :=
  ⟨Nat.one_mul _, ha, hn, by rw [nDigits_one]; omega, fun h => by (cases h), fun _ => hl, by omega, Nat.le_refl _⟩
theorem PowI.sq_le {A sq out n : Nat} {fits : Bool} (h : PowI A sq out n fits) : out * sq ≤ A := by
  rw [← h.eq]
  refine Nat.mul_le_mul_left _ ?_
  have := Nat.pow_le_pow_right (n := sq) (by have := h.two; omega) h.n1
  rwa [Nat.pow_one] at this
theorem PowI.big {A sq out n : Nat} {fits : Bool} (h : PowI A sq out n fits) (hf : fits = false) : 4000 < nDigits A := by
  refine Nat.lt_of_lt_of_le (h.fit hf) (nDigits_mono ?_)
  exact Nat.le_trans (Nat.le_mul_of_pos_left _ h.pos) h.sq_le
theorem PowI.bigO {A sq out n : Nat} {fits : Bool} (h : PowI A sq out n fits) (hb : 4000 < nDigits (out * sq)) : 4000 < nDigits A :=
  Nat.lt_of_lt_of_le hb (nDigits_mono h.sq_le)
theorem PowI.done {A sq out n : Nat} {fits : Bool} (h : PowI A sq out n fits) (hn : n = 1) : out * sq = A := by
  rw [← h.eq, hn, Nat.pow_one]
theorem sq_len {sq : Nat} (h : (limbs sq).length ≤ 100000) : (limbs (sq * sq)).length ≤ 200000 := by
  have := limbs_mul h h
  omega
theorem PowI.odd {A sq out n : Nat} {fits : Bool} (h : PowI A sq out n fits) (hf : fits = true) (ho : n % 2 = 1) (hs : nDigits (out * sq) ≤ 4000) (h2 : 1 ≤ n / 2) : PowI A (sq * sq) (out * sq) (n / 2) (decide (nDigits (sq * sq) ≤ 4000)) := by
  have h4 := Nat.mul_le_mul h.two h.two
  refine ⟨?_, by omega, h2, hs, fun e => ?_, fun e => ?_, sq_len (h.len hf), Nat.mul_pos h.pos (by have := h.two; omega)⟩
  · rw [← h.eq, Nat.mul_assoc, ← Nat.pow_two, ← Nat.pow_mul]
    have : sq * sq ^ (2 * (n / 2)) = sq ^ n := by
      rw [← Nat.pow_succ']
      congr 1
      omega
    rw [this]
  · have := of_decide_eq_false e; omega
  · have := limbs_of_digits (of_decide_eq_true e); omega
theorem PowI.even {A sq out n : Nat} {fits : Bool} (h : PowI A sq out n fits) (hf : fits = true) (ho : n % 2 = 0) : PowI A (sq * sq) out (n / 2) (decide (nDigits (sq * sq) ≤ 4000)) := by
  have h4 := Nat.mul_le_mul h.two h.two
  have h1 := h.n1
  refine ⟨?_, by omega, by omega, h.small, fun e => ?_, fun e => ?_, sq_len (h.len hf), h.pos⟩
  · rw [← h.eq, ← Nat.pow_two, ← Nat.pow_mul]
    congr 2
    omega
  · have := of_decide_eq_false e; omega
  · have := limbs_of_digits (of_decide_eq_true e); omega
def RetPowU (n : Nat) (e : Ending) (w' : World) : Prop :=
  (nDigits n ≤ 4000 ∧ ∃ v, e = .returned (.tuple #[v, .bool true]) ∧ IsN .u64 w' v n) ∨ (4000 < nDigits n ∧ e = .returned (.tuple #[.slice none 0 0, .bool false]))
theorem isN_oneU (w : World) : IsN .u64 (w.alloc (.cells #[.int .u64 1] 147)) (.slice (some ⟨w.heap.size, 0, none⟩) 1 1) 1 := by
  unfold IsN
  rw [limbs_one]
  exact Row.of_blk (b := w.heap.size) (n := 1) (c := 1) (cs := #[.int .u64 1]) (Blk.new w _ _) rfl (by unfold maxLen; omega) (fun i x hx => by simpa [ints] using hx) (Nat.le_refl _) (by unfold maxLen; omega)
theorem odd_test {n : Nat} (h : n < 18446744073709551616) : (bits BinOp.and IntKind.u64 (n : Int) 1 == 1) = decide (n % 2 = 1) := by
  rw [and_one_u64 _ (by omega) (by omega), Bool.eq_iff_iff, beq_iff_eq, decide_eq_true_eq]
  omega
set_option maxRecDepth 100000 in
set_option maxHeartbeats 1000000 in
theorem l_Pow_zero (w : World) (v : Value) (a : Nat) (ha : IsN .u64 w v a) : Calls Tryz.prog 133 #[v, .int .u64 0, .int .i64 4000] w fun e w' => RetPowU (a ^ 0) e w' ∧ Below w.heap.size w w' := by
  have H1 := hid (isN_oneU (w.alloc (.cells #[.int .i64 4000] 3)))
  go_enter Tryz.func133, Tryz.ntmps133
  go_wp2_with fail
  go_ret2
  refine ⟨.inl ⟨by rw [Nat.pow_zero, nDigits_one]; omega, _, rfl, by rw [Nat.pow_zero]; simpa using H1.out⟩, ((Below.refl _ _).alloc (Nat.le_refl _) _).alloc (by simp) _⟩
set_option maxRecDepth 100000 in
set_option maxHeartbeats 1000000 in
theorem l_Pow_small (w : World) (v : Value) (a n : Nat) (ha : IsN .u64 w v a) (hs : a ≤ 1) (hn : 0 < n) (hn2 : n < 18446744073709551616) : Calls Tryz.prog 133 #[v, .int .u64 n, .int .i64 4000] w fun e w' => RetPowU (a ^ n) e w' ∧ Below w.heap.size w w' := by
  have hpow := hid (show a ^ n = a ∧ nDigits a ≤ 4000 from by
    rcases (show a = 0 ∨ a = 1 by omega) with rfl | rfl
    · exact ⟨Nat.zero_pow hn, by rw [nDigits_zero]; omega⟩
    · exact ⟨Nat.one_pow _, by rw [nDigits_one]; omega⟩)
  have b0 := hid ((Below.refl w.heap.size w).alloc (Nat.le_refl _) (.cells #[.int .i64 4000] 3))
  have A0 := hid (ha.call b0.out)
  have q0 : ((n : Int) == 0) = false := by rw [beq_eq_false_iff_ne]; omega
  obtain ⟨k1, d1, rfl, _⟩ := ha.openI
  obtain ⟨len, hlen⟩ : ∃ k, (limbs a).length = k := ⟨_, rfl⟩
  rw [hlen] at A0 ⊢
  clear ha hlen
  rcases (show a = 0 ∨ a = 1 by omega) with rfl | rfl
  · have hz : isZ 0 = true := rfl
    clear hs hn hn2
    go_enter Tryz.func133, Tryz.ntmps133
    go_wp2_with fail
    refine (l_Zero _ _ _ A0.out).mono ?_; rintro e w1 ⟨rfl, rfl⟩
    rw [hz]
    go_wp2_with fail
    go_ret2
    exact ⟨.inl ⟨by rw [hpow.out.1]; exact hpow.out.2, _, rfl, by rw [hpow.out.1]; exact A0.out⟩, b0.out⟩
  · have hz : isZ 1 = false := rfl
    have ho : isO 1 = true := rfl
    clear hs hn hn2
    go_enter Tryz.func133, Tryz.ntmps133
    go_wp2_with fail
    refine (l_Zero _ _ _ A0.out).mono ?_; rintro e w1 ⟨rfl, rfl⟩
    rw [hz]
    go_wp2_with fail
    refine (l_One _ _ _ A0.out).mono ?_; rintro e w1 ⟨rfl, rfl⟩
    rw [ho]
    go_wp2_with fail
    go_ret2
    exact ⟨.inl ⟨by rw [hpow.out.1]; exact hpow.out.2, _, rfl, by rw [hpow.out.1]; exact A0.out⟩, b0.out⟩
set_option maxRecDepth 100000 in
set_option maxHeartbeats 4000000 in
theorem l_Pow_big (w : World) (v : Value) (a N : Nat) (ha : IsN .u64 w v a) (hs : 2 ≤ a) (hl : (limbs a).length ≤ 100000) (hn : 0 < N) (hn2 : N < 18446744073709551616) (hL : Lay w) : Calls Tryz.prog 133 #[v, .int .u64 N, .int .i64 4000] w fun e w' => RetPowU (a ^ N) e w' ∧ Below w.heap.size w w' := by
  have b0 := hid ((Below.refl w.heap.size w).alloc (Nat.le_refl _) (.cells #[.int .i64 4000] 3))
  have A0 := hid (ha.call b0.out); have HA := hid ha
  have q0 : ((N : Int) == 0) = false := by rw [beq_eq_false_iff_ne]; omega
  obtain ⟨k1, d1, rfl, _⟩ := ha.openI
  obtain ⟨len, hlen⟩ : ∃ k, (limbs a).length = k := ⟨_, rfl⟩
  have PI := hid (PowI.start (n := N) hs hn hl)
  rw [hlen] at A0 HA ⊢
  have hz : isZ a = false := decide_eq_false (by omega)
  have ho : isO a = false := decide_eq_false (by omega)
  have HN2 := hid hn2; have HL := hid hL; have HLL := hid hL.lt
  obtain ⟨R, hR⟩ : ∃ R, a ^ N = R := ⟨_, rfl⟩
  rw [hR] at PI ⊢
  clear ha hlen hs hl hn hn2 hL hR
  go_enter Tryz.func133, Tryz.ntmps133
  go_wp2_with fail
  refine (l_Zero _ _ _ A0.out).mono ?_; rintro e w1 ⟨rfl, rfl⟩
  rw [hz]
  clear hz
  go_wp2_with fail
  refine (l_One _ _ _ A0.out).mono ?_; rintro e w1 ⟨rfl, rfl⟩
  rw [ho]
  clear ho
  go_wp2_with fail
  obtain ⟨W0, hW0⟩ : ∃ W0, ((((w.alloc (.cells #[.int .i64 4000] 3)).alloc (.cells #[.int .u64 1] 147)).alloc (.cells #[.slice k1 len d1] 119)).alloc (.cells #[.bool true] 4)) = W0 := ⟨_, rfl⟩
  have b4 : Below w.heap.size w W0 := by rw [← hW0]; exact ((((Below.refl _ _).alloc (Nat.le_refl _) _).alloc (by simp) _).alloc (by simp <;> omega) _).alloc (by simp <;> omega) _
  have x0 : Blk W0 w.heap.size #[.int .i64 4000] 3 := by rw [← hW0]; exact (((Blk.new w _ _).alloc _).alloc _).alloc _
  have x1 : Blk W0 (w.heap.size + 1) #[.int .u64 1] 147 := by rw [← hW0]; exact ((Blk.made _ _ _ (by simp)).alloc _).alloc _
  have x2 : Blk W0 (w.heap.size + 1 + 1) #[.slice k1 len d1] 119 := by rw [← hW0]; exact (Blk.made _ _ _ (by simp)).alloc _
  have x3 : Blk W0 (w.heap.size + 1 + 1 + 1) #[.bool true] 4 := by rw [← hW0]; exact Blk.made _ _ _ (by simp)
  have o0 : IsN .u64 W0 (.slice (some ⟨w.heap.size + 1, 0, none⟩) 1 1) 1 := by
    unfold IsN
    rw [limbs_one]
    exact Row.of_blk (n := 1) (c := 1) x1 rfl (by unfold maxLen; omega) (fun i x hx => by simpa [ints] using hx) (Nat.le_refl _) (by unfold maxLen; omega)
  have P0 : PowS W0 (w.heap.size + 1 + 1) (w.heap.size + 1 + 1 + 1) w.heap.size a true := ⟨⟨_, _, _, x2, HA.out.call b4⟩, x3, x0, by omega, by omega, by omega⟩
  rw [hW0]
  have OO := hid o0; have PP := hid P0; have BB := hid b4
  obtain ⟨bs, hbs⟩ : ∃ b, w.heap.size + 1 + 1 = b := ⟨_, rfl⟩
  rw [hbs] at PP ⊢
  obtain ⟨bf, hbf⟩ : ∃ b, bs + 1 = b := ⟨_, rfl⟩
  rw [hbf] at PP ⊢
  have HBS := hid (show w.heap.size ≤ bs by omega); have HBF := hid (show w.heap.size ≤ bf by omega)
  have e159 : ∀ args w, (callFunc 183 args).run Tryz.prog w = .ok (.enter 183 args) w := enters_of Tryz.func183 (by kernel_rfl) rfl
  clear b4 x0 x1 x2 x3 o0 P0 hW0 hbs hbf A0 b0 q0
  go_loopw [1, 8] (fun nn oo wr => ∃ (n out sq : Nat) (fits : Bool) (a1 : Option Addr) (l1 c1 : Nat), nn = .int .u64 (n : Nat) ∧ oo = .slice a1 l1 c1 ∧ Hid (PowI R sq out n fits) ∧ Hid (IsN .u64 wr (.slice a1 l1 c1) out) ∧ Hid (PowS wr bs bf w.heap.size sq fits) ∧ Hid (Below w.heap.size w wr) ∧ n < 18446744073709551616) (fun nn oo wr => (intOf nn).toNat)
  case atStart => exact ⟨N, 1, a, true, _, _, _, rfl, rfl, PI.out, OO.out, PP.out, BB.out, HN2.out⟩
  case round =>
    obtain ⟨n, out, sq, fits, a1, l1, c1, rfl, rfl, hI, hO, hS, hB, hn⟩ := hrel
    obtain ⟨a2, l2, c2, h1, h2⟩ := hS.out.sq
    have HL1 := hid (HL.out.call hB.out)
    have HO := hid h1; have HV := hid h2; have HF := hid hS.out.fits; have HT := hid hS.out.lim
    have k0 : wr.cell? ⟨bs, 0, none⟩ = some (.slice a2 l2 c2) := h1.cell 0
    have k1 : wr.cell? ⟨bf, 0, none⟩ = some (.bool fits) := hS.out.fits.cell 0
    have k2 : wr.cell? ⟨w.heap.size, 0, none⟩ = some (.int .i64 4000) := hS.out.lim.cell 0
    have HN := hid hn; have HN1 := hid hI.out.n1
    have HLO := hid (limbs_of_digits hI.out.small); have HLS := hid hI.out.lim
    clear h1 h2
    by_cases ho : n % 2 = 1
    · have q1 : (bits BinOp.and IntKind.u64 (n : Int) 1 == 1) = true := by rw [odd_test hn]; exact decide_eq_true ho
      have HO1 := hid ho
      clear ho hn
      go_wp2_with fail
      refine (l_Mul _ _ _ out sq hO.out HV.out (by have := HLO.out; omega) (by have := HLS.out; omega)).mono ?_; rintro e w1 ⟨⟨v1, rfl, hv1⟩, hb1⟩
      have HLM := hid (limbs_mul HLO.out HLS.out)
      obtain ⟨a3, c3, rfl, _⟩ := hv1.openI
      obtain ⟨l3, hl3⟩ : ∃ l, (limbs (out * sq)).length = l := ⟨_, rfl⟩
      rw [hl3] at hv1 ⊢
      have V1 := hid hv1; have F1 := hid (HF.out.call hb1); have T1 := hid (HT.out.call hb1); have B1 := hid (bnext hB.out hb1)
      have S1 : Hid (PowS w1 bs bf w.heap.size sq fits) := ⟨⟨_, _, _, HO.out.call hb1, HV.out.call hb1⟩, F1.out, T1.out, hS.out.n1, hS.out.n2, hS.out.n3⟩
      have m1 : w1.cell? ⟨bf, 0, none⟩ = some (.bool fits) := F1.out.cell 0
      have m2 : w1.cell? ⟨w.heap.size, 0, none⟩ = some (.int .i64 4000) := T1.out.cell 0
      have L1 := hid (HL1.out.call hb1); have B1x := hid hb1
      clear hb1 hv1 k0 k1 k2 hl3
      cases fits
      · go_wp2_with fail
        go_quiet (fail)
        go_wp2_with fail
        go_ret2
        exact ⟨.inr ⟨hI.out.big rfl, rfl⟩, below_drewN B1.out _⟩
      · go_wp2_with fail
        go_region_held3 (fun w' => w'.cell? ⟨bf, 0, none⟩ = some (.bool true) ∧ w'.cell? ⟨w.heap.size, 0, none⟩ = some (.int .i64 4000))
          (first | exact ⟨m1, m2⟩ | exact ⟨F2.out.cell 0, T2.out.cell 0⟩)
          (first
            | (go_at_call 156; refine (l_Digits _ _ (out * sq) (V1.out.call (Below.refl _ _).drew) (L1.out.call (Below.refl _ _).drew) (by have := HLM.out; omega)).mono ?_; rintro e w2 ⟨rfl, hb2⟩; have B2 := hid (show Below w1.heap.size w1 w2 from (Below.refl _ _).drew.trans hb2); have F2 := hid (F1.out.call B2.out); have T2 := hid (T1.out.call B2.out)))
        have S2 : Hid (PowS w2 bs bf w.heap.size sq true) := ⟨⟨_, _, _, (HO.out.call B1x.out).call B2.out, (HV.out.call B1x.out).call B2.out⟩, F2.out, T2.out, hS.out.n1, hS.out.n2, hS.out.n3⟩
        have V2 := hid (V1.out.call B2.out); have L2 := hid (L1.out.call B2.out); have BB2 := hid (bnext B1.out B2.out)
        clear m1 m2
        by_cases hd : 4000 < nDigits (out * sq)
        · have q2 : decide ((4000 : Int) < (nDigits (out * sq) : Nat)) = true := by simp; omega
          have HD := hid hd
          rw [q2]
          clear hd q2
          go_wp2_with fail
          go_ret2
          exact ⟨.inr ⟨hI.out.bigO HD.out, rfl⟩, BB2.out⟩
        · have q2 : decide ((4000 : Int) < (nDigits (out * sq) : Nat)) = false := by simp; omega
          have HD := hid (show nDigits (out * sq) ≤ 4000 by omega)
          rw [q2]
          clear hd q2
          have m1 : w2.cell? ⟨bf, 0, none⟩ = some (.bool true) := F2.out.cell 0
          by_cases h1 : n = 1
          · have HD1 := hid (hI.out.done h1)
            subst h1
            go_wp2_with fail
            go_ret2
            exact ⟨.inl ⟨by rw [← HD1.out]; exact HD.out, _, rfl, by rw [← HD1.out]; exact V2.out⟩, BB2.out⟩
          · have h2 : 1 ≤ n / 2 := by have := HO1.out; omega
            have HN2' := hid h2
            have q3 : ((n : Int) / 2 == 0) = false := by rw [beq_eq_false_iff_ne]; omega
            have HI2 := hid (hI.out.odd rfl HO1.out HD.out h2)
            clear h1 h2
            go_wp2_with fail
            refine (l_Pow1 _ bs bf w.heap.size sq w.heap.size true S2.out HBS.out HBF.out BB2.out.size (hI.out.len rfl) L2.out HLL.out).mono ?_; rintro e w5 ⟨⟨v5, rfl⟩, hp5, hk5, hb5⟩
            have P5 := hid hp5; have O5 := hid (hk5 _ _ _ V2.out); have B5 := hid (BB2.out.trans hb5)
            clear hp5 hk5 hb5
            go_wp2_with fail
            go_roundw
            case rel => exact ⟨n / 2, out * sq, sq * sq, _, _, _, _, by rw [show ((n : Int) / 2) = ((n / 2 : Nat) : Int) by omega], rfl, HI2, O5, P5, B5, by have := HN.out; omega⟩
            case measure => simp [intOf] <;> (have := HN1.out; omega)
    · have q1 : (bits BinOp.and IntKind.u64 (n : Int) 1 == 1) = false := by rw [odd_test hn]; exact decide_eq_false ho
      have h0 : n % 2 = 0 := by omega
      have h2 : 1 ≤ n / 2 := by have := HN1.out; omega
      have q3 : ((n : Int) / 2 == 0) = false := by rw [beq_eq_false_iff_ne]; omega
      have H0 := hid h0
      clear ho hn h0 h2
      cases fits
      · go_wp2_with fail
        go_ret2
        exact ⟨.inr ⟨hI.out.big rfl, rfl⟩, hB.out⟩
      · have HI2 := hid (hI.out.even rfl H0.out)
        go_wp2_with fail
        refine (l_Pow1 _ bs bf w.heap.size sq w.heap.size true hS.out HBS.out HBF.out hB.out.size (hI.out.len rfl) HL1.out HLL.out).mono ?_; rintro e w5 ⟨⟨v5, rfl⟩, hp5, hk5, hb5⟩
        have P5 := hid hp5; have O5 := hid (hk5 _ _ _ hO.out); have B5 := hid (hB.out.trans hb5)
        clear hp5 hk5 hb5
        go_wp2_with fail
        go_roundw
        case rel => exact ⟨n / 2, out, sq * sq, _, _, _, _, by rw [show ((n : Int) / 2) = ((n / 2 : Nat) : Int) by omega], rfl, HI2, O5, P5, B5, by have := HN.out; omega⟩
        case measure => simp [intOf] <;> (have := HN1.out; omega)
theorem l_Pow (w : World) (v : Value) (a n : Nat) (ha : IsN .u64 w v a) (hl : (limbs a).length ≤ 100000) (hn2 : n < 18446744073709551616) (hL : Lay w) : Calls Tryz.prog 133 #[v, .int .u64 n, .int .i64 4000] w fun e w' => RetPowU (a ^ n) e w' ∧ Below w.heap.size w w' := by
  rcases Nat.eq_zero_or_pos n with rfl | hn
  · exact l_Pow_zero w v a ha
  · by_cases h : a ≤ 1
    · exact l_Pow_small w v a n ha h hn hn2
    · exact l_Pow_big w v a n ha (by omega) hl hn hn2 hL
end Go.Proofs.YtccalhlhdiapiaaGreatDoor
namespace Go.Proofs.YtccalhlhdiapiaaGreatDoor
open Go.RowKit
open Go.Lib (decDigits nDigits)
set_option linter.unusedVariables false
set_option linter.unusedSimpArgs false
set_option maxRecDepth 100000 in
set_option maxHeartbeats 1000000 in
theorem n_Pow_ok (w : World) (s : ByteArray) (n : Nat) (hs : errN s.data.toList = 0) (hn : n ≤ 9223372036854775807) (hd : nDigits (bN s ^ n) ≤ 4000) (hL : Lay w) :
    Calls Tryz.prog 102 #[.string s, .int .i64 n] w fun e w' => e = .returned (.tuple #[.string (numB (bN s ^ n)), .int .i64 0]) ∧ Below w.heap.size w w' := by
  obtain ⟨d1, d2, d3⟩ := errN_dig hs
  have HC := fun V => hid (n_Check V s (by omega))
  rw [hs] at HC
  have HP := fun V => hid (l_Parse V s d1 (by omega))
  have hdv : dv s.data.toList = bN s := rfl
  rw [hdv] at HP
  have HW := fun V v hv hL => hid (l_Pow V v (bN s) n hv (by omega) (by omega) hL)
  have HR := fun V v hv hL => hid (n_result V v (bN s ^ n) hv (by have := limbs_of_digits hd; omega) hL)
  have e1 : resB (bN s ^ n) = numB (bN s ^ n) := by rw [resB, if_neg (by omega)]
  have e2 : resE (bN s ^ n) = 0 := by rw [resE, if_neg (by omega)]
  rw [e1, e2] at HR
  obtain ⟨R, hR⟩ : ∃ R, bN s ^ n = R := ⟨_, rfl⟩
  rw [hR] at HW HR hd ⊢
  have HD := hid hd; have HL := hid hL
  have hn0 : (0 : Int) ≤ (n : Int) := by omega
  have hn1 : (n : Int) ≤ 9223372036854775807 := by omega
  have q0 : decide ((n : Int) < 0) = false := by simp
  clear hs hn d1 d2 d3 hdv e1 e2 hR hd hL
  go_enter Tryz.func102, Tryz.ntmps102
  go_wp2_with fail
  refine (HC _).out.mono ?_; rintro e w1 ⟨rfl, hb1⟩
  have b1 := hid hb1; clear hb1
  go_wp2_with fail
  refine (HP _).out.mono ?_; rintro e w2 ⟨⟨v2, rfl, hv2⟩, hb2⟩
  have b2 := hid (bnext b1.out hb2); have V2 := hid hv2; clear hb2 hv2
  go_wp2_with fail
  refine (HW _ _ V2.out (HL.out.call b2.out)).out.mono ?_
  rintro e w3 ⟨h3, hb3⟩
  rcases h3 with ⟨-, v3, rfl, hv3⟩ | ⟨h3, -⟩
  · have b3 := hid (bnext b2.out hb3); have V3 := hid hv3; clear hb3 hv3
    go_wp2_with fail
    refine (HR _ _ V3.out (HL.out.call b3.out)).out.mono ?_; rintro e w4 ⟨rfl, hb4⟩
    have b4 := hid (bnext b3.out hb4); clear hb4
    go_wp2_with fail
    go_ret2
    exact ⟨rfl, b4.out⟩
  · exact absurd h3 (by have := HD.out; omega)
theorem two_digits {n : Nat} (h : n ≤ 1000) : nDigits (2 ^ n) ≤ 4000 := by
  have h1 : 2 ^ n < 10 ^ (n + 1) := by
    have h2 : 2 ^ n ≤ 10 ^ n := Nat.pow_le_pow_left (by omega) n
    have h3 : 10 ^ n < 10 ^ (n + 1) := Nat.pow_lt_pow_right (by omega) (by omega)
    omega
  exact Nat.le_trans (nDigits_le (Nat.succ_pos n) h1) (by omega)
theorem bN_two : bN ⟨#[50]⟩ = 2 := by decide
theorem errN_two : errN (⟨#[50]⟩ : ByteArray).data.toList = 0 := by decide
end Go.Proofs.YtccalhlhdiapiaaGreatDoor
namespace Go.Proofs.YtccalhlhdiapiaaGreatDoor
open Go.RowKit Go.Shelf
open Go.Lib (decDigits nDigits)
set_option linter.unusedVariables false
set_option linter.unusedSimpArgs false
def shB (m t : Nat) : ByteArray := outB (qmk false m t)
theorem pk_make (w : World) (m t : Nat) (hm : nDigits m ≤ 4000) (ht : nDigits t ≤ 4000) (h0 : t ≠ 0) (hL : Lay w) :
    Calls Tryz.prog 65 #[.string (numB m), .string (numB t)] w fun e w' => e = .returned (.tuple #[.string (shB m t), .int .i64 (outE (qmk false m t))]) ∧ Below w.heap.size w w' := by
  have h := q_Make w (numB m) (numB t) (numB_sz hm) (numB_sz ht) hL
  have e := mk_num hm ht h0
  rwa [e.1, e.2] at h
end Go.Proofs.YtccalhlhdiapiaaGreatDoor
