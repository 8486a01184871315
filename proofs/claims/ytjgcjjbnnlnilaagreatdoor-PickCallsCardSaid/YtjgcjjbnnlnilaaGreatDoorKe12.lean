/- PickCalls: the row and the tied card: for every input the law answers true; conditions: none beyond the row's own. -/
import Derived.Test.YtjgcjjbnnlnilaaGreatDoorKe11
import Derived.Deep.AppendLies
namespace Go.Proofs.YtjgcjjbnnlnilaaGreatDoor
open Go.RowKit Go.Shelf
open Go.Lib (decDigits nDigits)
set_option linter.unusedVariables false
set_option linter.unusedSimpArgs false

theorem toI_num {n : Nat} (h : n ≤ 9223372036854775807) : toIV (decDigits n) = (n : Int) := by
  have hd : nDigits n ≤ 4000 := Nat.le_trans (nDigits_le (k := 19) (by omega) (by omega)) (by omega)
  rw [toIV, if_pos ⟨errN_num hd, by rw [dv_dec]; exact h⟩, dv_dec]

theorem bw_end {m k t : Nat} (ht : 0 < t) : (bwF m k t).2 = decide (k * m + m ≤ (k * m / t + 1) * t) := by
  have h := Nat.div_add_mod (k * m) t
  have e : (k * m / t + 1) * t = t * (k * m / t) + t := by rw [Nat.add_mul, Nat.mul_comm, Nat.one_mul]
  unfold bwF
  rw [e]
  simp only [decide_eq_decide]
  omega

set_option maxRecDepth 100000 in
set_option maxHeartbeats 4000000 in
theorem r5_Below (w : World) (m : Int) (s : ByteArray) (hb : s.size ≤ 100000000) :
    Calls Tryz.prog 33 #[.int .i64 m, .string s] w fun e w' => e = .returned (.tuple #[dw3 (bw3 m s), .int .i64 (bwE m s)]) ∧ Below w.heap.size w w' := by
  have PD := fun V => hid ((r4_BitsP V s hb).mono fun e w' (h : e = .returned (.int .i64 (chkE s)) ∧ V = w') => (⟨h.1, h.2 ▸ Below.refl _ _⟩ : e = .returned (.int .i64 (chkE s)) ∧ Below V.heap.size V w'))
  clear hb
  have A0 := hid ((Below.refl w.heap.size w).alloc (Nat.le_refl _) (.cells #[.bool false, .int .i64 0, .int .i64 0] 29))
  have x0 := hid (Blk.new w #[.bool false, .int .i64 0, .int .i64 0] 29)
  by_cases h1 : m < 1 ∨ 1000000 < m
  · have hE : bwE m s = 2 := by unfold bwE; rw [if_pos h1]
    have hR : bw3 m s = (false, 0, 0) := by unfold bw3; rw [if_neg (by rw [hE]; decide)]
    rw [hE, hR]
    simp only [dw3]
    obtain ⟨b1, hb1⟩ : ∃ b, decide (m < 1) = b := ⟨_, rfl⟩
    have q2 : b1 = false → decide (m > 1000000) = true := fun h => by subst h; simp at hb1; simp; omega
    have q3 : b1 = false → decide (1000000 < m) = true := fun h => by subst h; simp at hb1; simp; omega
    clear h1 hE hR
    have r0 := x0.out.cell 0
    have r1' := x0.out.cell 1
    have r2' := x0.out.cell 2
    have f0 := x0.out.free 0
    have f1 := x0.out.free 1
    have f2 := x0.out.free 2
    simp at r0 r1' r2'
    cases b1
    · have q2 := q2 rfl; have q3 := q3 rfl
      go_enter Tryz.func33, Tryz.ntmps33
      go_wp2_with fail
      have s3 := ((x0.out.set 0 (.bool false)).set 1 (.int .i64 0)).set 2 (.int .i64 0)
      have z0 := s3.cell 0
      have z1 := s3.cell 1
      have z2 := s3.cell 2
      simp at z0 z1 z2
      refine bodyPost_ret (v := .tuple #[.agg #[.bool false, .int .i64 0, .int .i64 0], .int .i64 2]) (by simp [results, Tryz.results33, go_sem, z0, z1, z2]) rfl ⟨rfl, ?_⟩
      exact (Below.refl _ _).alloc (Nat.le_refl _) _
    · clear q2 q3
      go_enter Tryz.func33, Tryz.ntmps33
      go_wp2_with fail
      have s3 := ((x0.out.set 0 (.bool false)).set 1 (.int .i64 0)).set 2 (.int .i64 0)
      have z0 := s3.cell 0
      have z1 := s3.cell 1
      have z2 := s3.cell 2
      simp at z0 z1 z2
      refine bodyPost_ret (v := .tuple #[.agg #[.bool false, .int .i64 0, .int .i64 0], .int .i64 2]) (by simp [results, Tryz.results33, go_sem, z0, z1, z2]) rfl ⟨rfl, ?_⟩
      exact (Below.refl _ _).alloc (Nat.le_refl _) _
  · obtain ⟨y, hy⟩ : ∃ y, chkE s = y := ⟨_, rfl⟩
    rw [hy] at PD
    have q1 : decide (m < 1) = false := by simp; omega
    have q2 : decide (m > 1000000) = false := by simp; omega
    have q3 : decide (1000000 < m) = false := by simp; omega
    have hE : bwE m s = y := by unfold bwE; rw [if_neg h1, hy]
    rw [hE]
    by_cases h3 : y = 0
    · have hR : bw3 m s = pdr (bwF m.toNat) 0 1 s.data.toList := by unfold bw3; rw [if_pos (by rw [hE]; exact h3)]
      rw [hR]
      have h256 := chkE_size (hy.trans h3)
      obtain ⟨n, rfl⟩ : ∃ n : Nat, m = n := ⟨m.toNat, by omega⟩
      have hn : n ≤ 1000000 := by omega
      have hn1 : 1 ≤ n := by omega
      rw [Int.toNat_natCast]
      subst h3
      obtain ⟨L, hL⟩ : ∃ L, s.data.toList = L := ⟨_, rfl⟩
      have hlen := hid (show L.length = s.size from by rw [← hL]; simp)
      have RV := hid fun V i (hi : i ≤ s.size) => (by
        have h := r3_Value V (s.extract 0 i) (by rw [(take_ex s hi).2]; omega)
        rw [(take_ex s hi).1, hL] at h
        exact h : Calls Tryz.prog 80 #[.string (s.extract 0 i)] V fun e w' => RetN .i64 (bv (L.take i)) e w' ∧ Below V.heap.size V w')
      have RT := hid fun V i (hi : i ≤ s.size) => r3_Two V i (by omega)
      have RN := hid fun V => r5_natural V n (by omega)
      have R1 := hid fun V => r5_natural V 1 (by omega)
      have BIG := hid fun x (h : x ≤ 10 ^ 100) => num_limbs (n := x) (Nat.le_trans (nDigits_le (k := 101) (by omega) (Nat.lt_of_le_of_lt h (by decide))) (by omega))
      have HN := hid hn; have HN1 := hid hn1
      have h256' := hid h256
      rw [hL]
      clear h1 hE hR hy hL hn hn1 h256
      have q4 : decide ((n : Int) < 1) = false := q1
      go_enter Tryz.func33, Tryz.ntmps33
      go_wp2_with fail
      refine (PD _).out.mono ?_; rintro e w1 ⟨rfl, hb1⟩
      have y1 := hid (bnext A0.out hb1); have k1 := hid (x0.out.call hb1)
      clear hb1
      go_wp2_with fail
      go_loopw [7] (fun ii wr => ∃ i : Nat, ii = .int .i64 i ∧ Hid (ShI (bwF n) L i) ∧ i ≤ s.size + 1 ∧ Hid (Blk wr w.heap.size #[.bool false, .int .i64 0, .int .i64 0] 29) ∧ Hid (Below w.heap.size w wr)) (fun ii wr => s.size + 1 - (intOf ii).toNat)
      case atStart => exact ⟨0, rfl, ShI.start _ _, by omega, k1, y1⟩
      case round =>
        obtain ⟨i, rfl, hI, hi, kr, hB⟩ := hrel
        by_cases hle : i ≤ s.size
        · have q0 : decide (i ≤ s.size) = true := by simpa using hle
          have hi256 : i ≤ 256 := by have := h256'.out; omega
          have hbv : bv (L.take i) < 2 ^ i := bv_lt i (by rw [hlen.out]; exact hle)
          have h2 : (2 : Nat) ^ i ≤ 2 ^ 256 := Nat.pow_le_pow_right (by omega) hi256
          have hpos : 0 < (2 : Nat) ^ i := Nat.pow_pos (by omega)
          have RVi := hid fun V => RV.out V i hle
          have RTi := hid fun V => RT.out V i hle
          have HE := hid (bw_end (m := n) (k := bv (L.take i)) (t := 2 ^ i) hpos)
          have HF := hid (show (bwF n (bv (L.take i)) (2 ^ i)).1 = bv (L.take i) * n / 2 ^ i from rfl)
          have NX := hid fun h => hI.out.next (by rw [hlen.out]; exact hle) h
          have DN := hid fun h => hI.out.done (by rw [hlen.out]; exact hle) h
          obtain ⟨k, hk⟩ : ∃ k, bv (L.take i) = k := ⟨_, rfl⟩
          obtain ⟨t, ht⟩ : ∃ t, 2 ^ i = t := ⟨_, rfl⟩
          rw [hk] at RVi hbv HE HF NX DN
          rw [ht] at RTi hbv HE HF NX DN h2 hpos
          have hkn : k * n ≤ 2 ^ 256 * 1000000 := Nat.mul_le_mul (by omega) HN.out
          have hq : k * n / t ≤ n := by
            have h5 : k * n ≤ t * n := Nat.mul_le_mul_right _ (by omega)
            have h6 := Nat.div_le_div_right (c := t) h5
            rw [Nat.mul_div_cancel_left _ hpos] at h6
            exact h6
          have big : (2 : Nat) ^ 256 * 1000000 + 1000000 ≤ 10 ^ 100 := by decide
          have sml : (1000001 : Nat) ≤ 10 ^ 100 := by decide
          have hn' := HN.out
          have LK := hid (BIG.out k (by omega))
          have LT := hid (BIG.out t (by omega))
          have LN := hid (BIG.out n (by omega))
          have LKN := hid (BIG.out (k * n) (by omega))
          have L1 := hid (BIG.out 1 (by omega))
          have LQ := hid (BIG.out (k * n / t) (by omega))
          have LQ1 := hid (BIG.out (k * n / t + 1) (by omega))
          have HPOS := hid hpos
          have HQ := hid (show k * n / t ≤ 9223372036854775807 from by omega)
          clear hk ht hkn hq big sml hn' hbv h2 hpos
          go_wp2_with fail
          refine (RTi.out _).mono ?_; rintro e w2 ⟨⟨v2, rfl, hv2⟩, hb2⟩
          have V2 := hid hv2; have B2 := hid hb2; clear hv2 hb2
          go_wp2_with fail
          refine (RVi.out _).mono ?_; rintro e w3 ⟨⟨v3, rfl, hv3⟩, hb3⟩
          have V3 := hid hv3; have B3 := hid (bnext B2.out hb3); have C3 := hid hb3; clear hv3 hb3
          go_wp2_with fail
          refine (RN.out _).mono ?_; rintro e w4 ⟨⟨v4, rfl, hv4⟩, hb4⟩
          have V4 := hid hv4; have B4 := hid (bnext B3.out hb4); have C4 := hid (bnext C3.out hb4); have V34 := hid (V3.out.call hb4); clear hv4 hb4
          go_wp2_with fail
          refine (r1_Times _ _ _ _ _ V34.out V4.out LK.out LN.out).mono ?_; rintro e w5 ⟨⟨v5, rfl, hv5⟩, hb5⟩
          have V5 := hid hv5; have B5 := hid (bnext B4.out hb5); have C5 := hid (bnext C4.out hb5); clear hv5 hb5
          go_wp2_with fail
          refine (r1_Divide _ _ _ _ _ V5.out (V2.out.call C5.out) HPOS.out LKN.out).mono ?_; rintro e w6 ⟨⟨v6, u6, rfl, hv6, hu6⟩, hb6⟩
          have V6 := hid hv6; have B6 := hid (bnext B5.out hb6); have C6 := hid (bnext C5.out hb6); have V56 := hid (V5.out.call hb6); clear hv6 hu6 hb6
          go_wp2_with fail
          refine (RN.out _).mono ?_; rintro e w7 ⟨⟨v7, rfl, hv7⟩, hb7⟩
          have V7 := hid hv7; have B7 := hid (bnext B6.out hb7); have C7 := hid (bnext C6.out hb7); have V57 := hid (V56.out.call hb7); have V67 := hid (V6.out.call hb7); clear hv7 hb7
          go_wp2_with fail
          refine (r1_Plus _ _ _ _ _ V57.out V7.out LKN.out LN.out).mono ?_; rintro e w8 ⟨⟨v8, rfl, hv8⟩, hb8⟩
          have V8 := hid hv8; have B8 := hid (bnext B7.out hb8); have C8 := hid (bnext C7.out hb8); have V68 := hid (V67.out.call hb8); clear hv8 hb8
          go_wp2_with fail
          refine (R1.out _).mono ?_; rintro e w9 ⟨⟨v9, rfl, hv9⟩, hb9⟩
          have V9 := hid hv9; have B9 := hid (bnext B8.out hb9); have C9 := hid (bnext C8.out hb9); have D9 := hid hb9; have V69 := hid (V68.out.call hb9); clear hv9 hb9
          go_wp2_with fail
          refine (r1_Plus _ _ _ _ _ V69.out V9.out LQ.out L1.out).mono ?_; rintro e wa ⟨⟨va, rfl, hva⟩, hba⟩
          have VA := hid hva; have BA := hid (bnext B9.out hba); have CA := hid (bnext C9.out hba); have DA := hid (bnext D9.out hba); have V6a := hid (V69.out.call hba); clear hva hba
          go_wp2_with fail
          refine (r1_Times _ _ _ _ _ VA.out (V2.out.call CA.out) LQ1.out LT.out).mono ?_; rintro e wb ⟨⟨vb, rfl, hvb⟩, hbb⟩
          have VB := hid hvb; have BB := hid (bnext BA.out hbb); have DB := hid (bnext DA.out hbb); have V6b := hid (V6a.out.call hbb); clear hvb hbb
          go_wp2_with fail
          refine (r1_Order _ _ _ _ _ (V8.out.call DB.out) VB.out).mono ?_; rintro e wc ⟨rfl, hbc⟩
          have BC := hid (bnext BB.out hbc); have V6c := hid (V6b.out.call hbc); clear hbc
          obtain ⟨z, hz⟩ : ∃ z, ordN (k * n + n) ((k * n / t + 1) * t) = z := ⟨_, rfl⟩
          have DZ := hid (show decide (z ≤ 0) = (bwF n k t).2 from by rw [HE.out, ← hz]; exact pk_le)
          rw [hz]
          have kC := hid (kr.out.call BC.out)
          have BW := hid (hB.out.trans (BC.out.mono hB.out.size))
          clear hz V2 V3 V34 V4 V5 V56 V57 V6 V67 V68 V69 V6a V6b V7 V8 V9 VA VB B2 B3 B4 B5 B6 B7 B8 B9 BA BB C3 C4 C5 C6 C7 C8 C9 CA D9 DA DB
          cases hd : decide (z ≤ 0)
          · have N1 := hid (NX.out (by rw [← DZ.out]; exact hd))
            go_wp2_with fail
            go_roundw
            case rel => exact ⟨i + 1, by go_num, N1, by omega, kC, BW⟩
            case measure => simp [intOf] <;> omega
          · have N1 := hid (DN.out (by rw [← DZ.out]; exact hd))
            rw [HF.out] at N1
            go_wp2_with fail
            refine (r1_Write _ _ _ V6c.out LQ.out).mono ?_; rintro e wd ⟨rfl, hbd⟩
            have BD := hid (hB.out.trans ((bnext BC.out hbd).mono hB.out.size)); have kD := hid (kC.out.call hbd); clear hbd
            rw [numV_eq]
            go_wp2_with fail
            refine (r1_ToInt _ _ (by rw [numB_size]; exact Nat.le_trans (nDigits_le (k := 19) (by omega) (Nat.lt_of_le_of_lt HQ.out (by decide))) (by decide))).mono ?_; rintro e we ⟨rfl, hbe⟩
            have BE := hid (BD.out.trans (hbe.mono BD.out.size)); have kE := hid (kD.out.call hbe); clear hbe
            rw [numB_list, toI_num HQ.out]
            obtain ⟨oe, hoe⟩ : ∃ x, toIE (decDigits (k * n / t)) = x := ⟨_, rfl⟩
            rw [hoe]
            obtain ⟨vv, hvv⟩ : ∃ x, k * n / t = x := ⟨_, rfl⟩
            rw [hvv] at N1 ⊢
            have r0 := kE.out.cell 0
            have r1 := kE.out.cell 1
            have r2 := kE.out.cell 2
            have f0 := kE.out.free 0
            have f1 := kE.out.free 1
            have f2 := kE.out.free 2
            simp at r0 r1 r2
            clear hoe hvv HQ HF HE DZ NX DN
            go_wp2_with fail
            have s3 := ((kE.out.set 0 (.bool true)).set 1 (.int .i64 (vv : Nat))).set 2 (.int .i64 (i : Nat))
            have z0 := s3.cell 0
            have z1 := s3.cell 1
            have z2 := s3.cell 2
            simp at z0 z1 z2
            refine bodyPost_ret (v := .tuple #[.agg #[.bool true, .int .i64 (vv : Nat), .int .i64 (i : Nat)], .int .i64 0]) (by simp [results, Tryz.results33, go_sem, z0, z1, z2]) rfl ⟨by rw [N1.out]; rfl, ?_⟩
            exact ((BE.out.setCell (Nat.le_refl _) _).setCell (Nat.le_refl _) _).setCell (Nat.le_refl _) _
        · obtain rfl : i = s.size + 1 := by omega
          have LS := hid (hI.out.last (by rw [hlen.out]))
          have q0 : decide (s.size + 1 ≤ s.size) = false := by simp
          have r0 := kr.out.cell 0
          have r1 := kr.out.cell 1
          have r2 := kr.out.cell 2
          have f0 := kr.out.free 0
          have f1 := kr.out.free 1
          have f2 := kr.out.free 2
          simp at r0 r1 r2
          go_wp2_with fail
          have s3 := ((kr.out.set 0 (.bool false)).set 1 (.int .i64 0)).set 2 (.int .i64 (s.size : Nat))
          have z0 := s3.cell 0
          have z1 := s3.cell 1
          have z2 := s3.cell 2
          simp at z0 z1 z2
          refine bodyPost_ret (v := .tuple #[.agg #[.bool false, .int .i64 0, .int .i64 (s.size : Nat)], .int .i64 0]) (by simp [results, Tryz.results33, go_sem, z0, z1, z2]) rfl ⟨by rw [LS.out, hlen.out]; rfl, ?_⟩
          exact ((hB.out.setCell (Nat.le_refl _) _).setCell (Nat.le_refl _) _).setCell (Nat.le_refl _) _
    · have hR : bw3 m s = (false, 0, 0) := by unfold bw3; rw [if_neg (by rw [hE]; exact h3)]
      rw [hR]
      simp only [dw3]
      have q4 : (y == 0) = false := by rw [beq_eq_false_iff_ne]; exact h3
      have q5 : (y != 0) = true := by rw [bne_iff_ne]; exact h3
      clear h1 h3 hE hR hy
      go_enter Tryz.func33, Tryz.ntmps33
      go_wp2_with fail
      refine (PD _).out.mono ?_; rintro e w1 ⟨rfl, hb1⟩
      have y1 := hid (bnext A0.out hb1); have k1 := hid (x0.out.call hb1)
      clear hb1
      have r0 := k1.out.cell 0
      have r1' := k1.out.cell 1
      have r2' := k1.out.cell 2
      have f0 := k1.out.free 0
      have f1 := k1.out.free 1
      have f2 := k1.out.free 2
      simp at r0 r1' r2'
      go_wp2_with fail
      have s3 := ((k1.out.set 0 (.bool false)).set 1 (.int .i64 0)).set 2 (.int .i64 0)
      have z0 := s3.cell 0
      have z1 := s3.cell 1
      have z2 := s3.cell 2
      simp at z0 z1 z2
      refine bodyPost_ret (v := .tuple #[.agg #[.bool false, .int .i64 0, .int .i64 0], .int .i64 y]) (by simp [results, Tryz.results33, go_sem, z0, z1, z2]) rfl ⟨rfl, ?_⟩
      exact ((y1.out.setCell (Nat.le_refl _) _).setCell (Nat.le_refl _) _).setCell (Nat.le_refl _) _
end Go.Proofs.YtjgcjjbnnlnilaaGreatDoor

/- Walks: kit.Own and kit.Same at texts; append of a slice that came in (nil too) in a plain region. -/
namespace Go.Proofs.YtjgcjjbnnlnilaaGreatDoor
open Go.RowKit Go.Shelf
open Go.Lib (decDigits nDigits)
set_option linter.unusedVariables false
set_option linter.unusedSimpArgs false

/-- An append of a slice that came in, nil too. -/
theorem run_append_any {P : Program} (w : World) (base : Nat) (t ty e : TypeId) (i : TypeInfo) (z : Value) (size bytes : Nat) (ht : P.underlying t = some (.slice e)) (hi : P.info? e = some i) (hz : i.zero = some z)
    (hsize : i.size = size) (hby : i.bytes = bytes) (hzs : z.cells.size = size) (hsz : 0 < size)
    (v : Value) (n : Nat) (xs : List Value) (hown : w.ownsRow base e size v n xs) (hv : v ≠ .slice none 0 0)
    (ao : Option Addr) (m c : Nat) (news : List Value) (hl : news.length = m * size) (hnews : ∀ j u, news[j]? = some u → ∃ ad, ao = some ad ∧ w.cell? (ad.add j) = some u) (h1 : ∀ u ∈ news, u.oneCell' = true)
    (h63 : n + m ≤ maxLen) (hbytes : (n + m) * bytes ≤ 140737488355328) (hbase : base ≤ w.heap.size) :
    ∃ v' w', (Builtin.append_ #[t, t] ty #[v, .slice ao m c]).run P w = .ok v' w' ∧ w'.ownsRow base e size v' (n + m) (xs ++ news) ∧ w.grownBy w' v.ownBlock ∧ v' ≠ .slice none 0 0 := by
  cases ao with
  | some ad =>
    obtain ⟨v', w', hr, k1, k2, k3, -⟩ := run_append_own_at (P := P) w base t ty e i z size bytes ht hi hz hsize hby hzs hsz v n xs hown ad m c news hl (fun j u hu => by obtain ⟨ad', e', hc⟩ := hnews j u hu; cases e'; exact hc) h1 h63 hbytes hbase
    exact ⟨v', w', hr, k1, k2, fun e => hv (k3.1 e).1⟩
  | none =>
    have hn : news = [] := by
      cases news with
      | nil => rfl
      | cons u r => obtain ⟨ad, e, _⟩ := hnews 0 u rfl; cases e
    subst hn
    have hm : m = 0 := by
      rcases Nat.eq_zero_or_pos m with h | h
      · exact h
      · have := Nat.mul_pos h hsz; simp at hl; omega
    subst hm
    refine ⟨v, w, ?_, by simpa using hown, ⟨rfl, rfl, rfl, Nat.le_refl _, fun _ _ _ => rfl⟩, hv⟩
    rcases hown.2 with ⟨e, _⟩ | ⟨g, cap, cur, rfl, hb, hg, h1', h2', h3', h4'⟩
    · exact absurd e hv
    · simp [Builtin.append_, run_underlying ht, sizeOf, typeInfo, hi, Builtin.lenOf, Builtin.firstCells, loadCells, loadCellsFrom, storeCells, h1']

theorem wpList_append_any {P : Program} {w : World} {ops : Array Oper} {rest : List Oper} {o : Oper} {a : Act} {Q : Exit → Act → World → Prop} (hgd : o.guard = none) (s x : Operand) (t : TypeId)
    (ho : o.op = .call { callee := .builtin .append, args := #[s, x], argTypes := #[t, t] })
    (base : Nat) (e : TypeId) (i : TypeInfo) (z : Value) (size bytes : Nat) (ht : P.underlying t = some (.slice e)) (hi : P.info? e = some i) (hz : i.zero = some z)
    (hsize : i.size = size) (hby : i.bytes = bytes) (hzs : z.cells.size = size) (hsz : 0 < size)
    (v : Value) (n : Nat) (xs : List Value) (hs : a.eval s = v) (hown : w.ownsRow base e size v n xs) (hv : v ≠ .slice none 0 0)
    (ao : Option Addr) (m c : Nat) (news : List Value) (hx : a.eval x = .slice ao m c) (hl : news.length = m * size) (hnews : ∀ j u, news[j]? = some u → ∃ ad, ao = some ad ∧ w.cell? (ad.add j) = some u) (h1 : ∀ u ∈ news, u.oneCell' = true)
    (h63 : n + m ≤ maxLen) (hbytes : (n + m) * bytes ≤ 140737488355328) (hbase : base ≤ w.heap.size)
    (h : ∀ v' w', w'.ownsRow base e size v' (n + m) (xs ++ news) → w.grownBy w' v.ownBlock → v' ≠ .slice none 0 0 → wpList P ops Q rest (a.put o.dst v') w') :
    wpList P ops Q (o :: rest) a w := by
  refine wpList_plain hgd fun K hK => ?_
  obtain ⟨v', w', hr, h2, h3, h4⟩ := run_append_any (P := P) w base t o.type e i z size bytes ht hi hz hsize hby hzs hsz v n xs hown hv ao m c news hl hnews h1 h63 hbytes hbase
  unfold Oper.wp execOp
  simp only [ho, resolve, invoke, builtin, Sem.run_bind, Sem.run_pure, Result.andThen_ok, List.map_toArray, List.map_cons, List.map_nil, hs, hx, hr]
  exact hK _ _ (h v' w' h2 h3 h4)

theorem info_numO : (Tryz.prog.info? 23).map (fun i => (i.zero, i.size, i.bytes)) = some (some (.string ⟨#[]⟩), 1, 16) := by kernel_rfl

theorem owned_below {w W w3 : World} {t : TypeId} {z : Nat} {v : Value} {m : Nat} {vs : List Value} (h : W.ownsRow w.heap.size t z v m vs) (h0 : Below w.heap.size w W) (hg : W.grownBy w3 v.ownBlock) : Below w.heap.size w w3 := by
  refine h0.trans ⟨hg.os, hg.tape, hg.output, hg.size, fun j hj => hg.block j (Nat.lt_of_lt_of_le hj h0.size) fun e => ?_⟩
  have := (h.lt j e.symm).1
  omega

theorem strs_oneO (l : List ByteArray) : ∀ u ∈ strs l, u.oneCell' = true := by
  intro u hu
  obtain ⟨x, _, rfl⟩ := List.mem_map.1 hu
  rfl

set_option maxRecDepth 100000 in
set_option maxHeartbeats 1000000 in
theorem k_OwnS (w : World) (v : Value) (l : List ByteArray) (hv : Row w v (strs l)) (hl : l.length ≤ 1000000) :
    Calls Tryz.prog 31 #[v] w fun e w' => (∃ u, e = .returned u ∧ Row w' u (strs l)) ∧ Below w.heap.size w w' := by
  obtain ⟨i0, hi, hz0, hz1, hz2⟩ := info_parts info_numO
  obtain ⟨a, c, rfl, q1, q2, q3⟩ := hv.ex
  rw [strs_length] at *
  have SRC : Hid (∀ j u, (strs l)[j]? = some u → ∃ ad, a = some ad ∧ (w.alloc (.cells #[] 23)).cell? (ad.add j) = some u) := fun j u hu => by
    obtain ⟨g, o, rfl, hg, hc⟩ := q3 j u hu
    refine ⟨_, rfl, ?_⟩
    rw [Addr.add_lit]
    exact (((Below.refl w.heap.size w).alloc (Nat.le_refl _) (.cells #[] 23)).cell (p := ⟨g, o + j, none⟩) hg).trans hc
  have HO := hid (show (w.alloc (.cells #[] 23)).ownsRow w.heap.size 23 1 (.slice (some ⟨w.heap.size, 0, none⟩) 0 0) 0 [] from World.ownsRow_made _ _ 0 (Nat.le_refl _) (by unfold maxLen; omega) rfl)
  have HB := hid ((Below.refl w.heap.size w).alloc (Nat.le_refl _) (.cells #[] 23))
  obtain ⟨n, hn⟩ : ∃ n, l.length = n := ⟨_, rfl⟩
  have HN := hid (show (strs l).length = n * 1 from by rw [strs_length, hn]; omega)
  rw [hn] at hl q1 ⊢
  clear hv q3 hn
  go_enter Tryz.func31, Tryz.ntmps31
  go_wp2_with (at_builtin; refine wpList_append_any rfl _ _ 22 rfl w.heap.size 23 i0 (.string ⟨#[]⟩) 1 16 Tryz.underlying22 hi hz0 hz1 hz2 rfl (by decide) (.slice (some ⟨w.heap.size, 0, none⟩) 0 0) 0 [] rfl HO.out (by intro e; cases e) a n c (strs l) rfl HN.out SRC.out (strs_oneO l) (by unfold maxLen; omega) (by omega) (by simp) ?_; intro v1 w1 hown1 hg1 hne1; have O1 := hid hown1; have G1 := hid hg1; clear hown1 hg1 hne1)
  go_ret
  exact ⟨⟨_, rfl, Row.of_owns O1.out⟩, owned_below HO.out HB.out G1.out⟩

set_option maxRecDepth 100000 in
set_option maxHeartbeats 2000000 in
theorem k_SameS (w : World) (v u : Value) (L M : List ByteArray) (hv : Row w v (strs L)) (hu : Row w u (strs M)) :
    Calls Tryz.prog 37 #[v, u] w fun e w' => e = .returned (.bool (decide (L = M))) ∧ Below w.heap.size w w' := by
  obtain ⟨a, c, rfl, h1, h2, h3⟩ := hv.openS
  obtain ⟨a', c', rfl, h1', h2', h3'⟩ := hu.openS
  obtain ⟨n, hn⟩ : ∃ n, L.length = n := ⟨_, rfl⟩
  obtain ⟨m, hm⟩ : ∃ n, M.length = n := ⟨_, rfl⟩
  rw [hn] at h1 ⊢
  rw [hm] at h1' ⊢
  have H3 := hid h3; have H3' := hid h3'; have HN := hid hn; have HM := hid hm
  clear hv hu h3 h3'
  by_cases hnm : n = m
  · subst hnm
    have q0 : ((n : Int) != (n : Int)) = false := by simp
    clear hn hm
    go_enter Tryz.func37, Tryz.ntmps37
    go_wp2_with fail
    go_loopw [5] (fun ii wr => ∃ i : Nat, ii = .int .i64 (i : Nat) ∧ i ≤ n ∧ Hid (∀ j, j < i → L[j]? = M[j]?) ∧ Hid (Below w.heap.size w wr)) (fun ii wr => n - (intOf ii).toNat)
    case atStart => exact ⟨0, rfl, Nat.zero_le _, fun j hj => absurd hj (by omega), Below.refl _ _⟩
    case round =>
      obtain ⟨i, rfl, hi, hI, hB⟩ := hrel
      by_cases hlt : i < n
      · obtain ⟨x, hx⟩ : ∃ x, L[i]? = some x := ⟨_, List.getElem?_eq_getElem (by rw [HN.out]; exact hlt)⟩
        obtain ⟨y, hy⟩ : ∃ x, M[i]? = some x := ⟨_, List.getElem?_eq_getElem (by rw [HM.out]; exact hlt)⟩
        obtain ⟨g, o, rfl, hg, k1⟩ := H3.out i x hx
        obtain ⟨g', o', rfl, hg', k1'⟩ := H3'.out i y hy
        have HX := hid hx; have HY := hid hy
        have m1 := (hB.out.cell (p := ⟨g, o + i, none⟩) hg).trans k1
        have m3 := (hB.out.cell (p := ⟨g', o' + i, none⟩) hg').trans k1'
        have b1 : (0 : Int) ≤ (i : Int) := by omega
        have b2 : (i : Int) < (n : Int) := by omega
        have wi : IntKind.i64.wrap ((i : Int) + 1) = (i : Int) + 1 := by rw [IntWalk.i64_in _ ⟨by omega, by omega⟩]
        clear k1 k1' hx hy hg hg'
        by_cases he1 : x = y
        · subst he1
          go_wp2_with fail
          refine held_plain [0, 1, 2, 3, 4, 5, 6, 7, 8] 0 (fun w' => w'.cell? ⟨g, o + i, none⟩ = some (.string x) ∧ w'.cell? ⟨g', o' + i, none⟩ = some (.string x)) (by kernel_rfl) (by kernel_rfl) (by kernel_rfl) (by kernel_rfl) ⟨m1, m3⟩ ?_
          iterate 9
            refine ⟨_, rfl, ?_⟩
            apply Exists.intro
            refine ⟨.inl ⟨by rfl, ?_⟩, ?_⟩
            · (intro W' hW'; obtain ⟨q1, q2⟩ := hW'; go_simp; try (with_reducible rfl))
            (dsimp only [Act.put]; try simp only [List.setIfInBounds_toArray, List.set_cons_zero, List.set_cons_succ])
          refine wpAnyH_done (by kernel_rfl) ?_ _
          simp only [Only]
          go_wp2_with fail
          go_roundw
          case rel => exact ⟨i + 1, rfl, by omega, fun j hj => by
            rcases Nat.lt_or_ge j i with h | h
            · exact hI.out j h
            · obtain rfl : j = i := by omega
              rw [HX.out, HY.out], hB.out.drew⟩
          case measure => simp [intOf] <;> omega
        · have n1 : (x.toList == y.toList) = false := by rw [beq_eq_false_iff_ne]; exact ne_tl he1
          have hne : decide (L = M) = false := by
            rw [decide_eq_false_iff_not]; rintro rfl
            have := HX.out.symm.trans HY.out
            simp only [Option.some.injEq] at this
            exact he1 this
          have HNE := hid hne
          clear hne he1
          go_wp2_with fail
          refine held_plain [0, 1, 2, 3, 4, 5, 6, 7, 8] 0 (fun w' => w'.cell? ⟨g, o + i, none⟩ = some (.string x) ∧ w'.cell? ⟨g', o' + i, none⟩ = some (.string y)) (by kernel_rfl) (by kernel_rfl) (by kernel_rfl) (by kernel_rfl) ⟨m1, m3⟩ ?_
          iterate 9
            refine ⟨_, rfl, ?_⟩
            apply Exists.intro
            refine ⟨.inl ⟨by rfl, ?_⟩, ?_⟩
            · (intro W' hW'; obtain ⟨q1, q2⟩ := hW'; go_simp; try (with_reducible rfl))
            (dsimp only [Act.put]; try simp only [List.setIfInBounds_toArray, List.set_cons_zero, List.set_cons_succ])
          refine wpAnyH_done (by kernel_rfl) ?_ _
          simp only [Only]
          go_wp2_with fail
          go_ret
          exact ⟨by rw [HNE.out]; rfl, hB.out.drew⟩
      · obtain rfl : i = n := by omega
        have hE : L = M := by
          apply List.ext_getElem?
          intro j
          by_cases hj : j < i
          · exact hI.out j hj
          · rw [List.getElem?_eq_none (by rw [HN.out]; omega), List.getElem?_eq_none (by rw [HM.out]; omega)]
        have HE := hid hE
        have q1 : decide ((i : Int) < (i : Int)) = false := by simp
        clear hE
        go_wp2_with fail
        go_ret
        exact ⟨by rw [decide_eq_true HE.out]; rfl, hB.out⟩
  · have hE : decide (L = M) = false := by rw [decide_eq_false_iff_not]; rintro rfl; exact hnm (hn.symm.trans hm)
    have HE := hid hE
    have q0 : ((n : Int) != (m : Int)) = true := by simp; omega
    clear hn hm hE
    go_enter Tryz.func37, Tryz.ntmps37
    go_wp2_with fail
    go_ret
    exact ⟨by rw [HE.out]; rfl, Below.refl _ _⟩
end Go.Proofs.YtjgcjjbnnlnilaaGreatDoor

/- Walks: law05.PickCalls. -/
namespace Go.Proofs.YtjgcjjbnnlnilaaGreatDoor
open Go.RowKit Go.Shelf
open Go.Lib (decDigits nDigits)
set_option linter.unusedVariables false
set_option linter.unusedSimpArgs false

set_option maxRecDepth 100000 in
set_option maxHeartbeats 4000000 in
theorem pc_over (w : World) (v : Value) (l : List ByteArray) (b : ByteArray) (n many : Int) (hv : Row w v (strs l)) (hL : Lay w) (h : longB l = true ∨ 300 < b.size) :
    Calls Tryz.prog 7 #[v, .string b, .int .i64 n, .int .i64 many] w fun e w' => e = .returned (.bool true) ∧ Below w.heap.size w w' := by
  have HLV := hid (w_lives w hL)
  have HLG := fun V hV => hid (p_long V v l hV)
  have HV := hid hv
  obtain ⟨a, c, rfl, c1, c2, -⟩ := hv.openS
  obtain ⟨N, hN⟩ : ∃ N, l.length = N := ⟨_, rfl⟩
  rw [hN] at HLG HV c1 ⊢
  obtain ⟨lb, hlb⟩ : ∃ x, longB l = x := ⟨_, rfl⟩
  rw [hlb] at HLG h
  clear hL hv hN hlb
  cases lb
  · have q0 : decide ((300 : Int) < (b.size : Int)) = true := by
      have : 300 < b.size := by simpa using h
      simp; omega
    clear h
    go_enter Tryz.func7, Tryz.ntmps7
    go_wp2_with fail
    refine HLV.out.mono ?_; rintro e w1 ⟨rfl, hb1⟩
    have y1 := hid hb1; clear hb1
    go_wp2_with fail
    refine (HLG _ (HV.out.call y1.out)).out.mono ?_; rintro e w2 ⟨rfl, rfl⟩
    go_wp2_with fail
    go_ret
    exact ⟨rfl, y1.out⟩
  · clear h
    go_enter Tryz.func7, Tryz.ntmps7
    go_wp2_with fail
    refine HLV.out.mono ?_; rintro e w1 ⟨rfl, hb1⟩
    have y1 := hid hb1; clear hb1
    go_wp2_with fail
    refine (HLG _ (HV.out.call y1.out)).out.mono ?_; rintro e w2 ⟨rfl, rfl⟩
    go_wp2_with fail
    go_ret
    exact ⟨rfl, y1.out⟩

set_option maxRecDepth 100000 in
set_option maxHeartbeats 8000000 in
theorem pc_main (w : World) (v : Value) (l : List ByteArray) (b : ByteArray) (n many : Int) (hv : Row w v (strs l)) (hL : Lay w) (h1 : ¬ longB l = true) (h2 : b.size ≤ 300) :
    Calls Tryz.prog 7 #[v, .string b, .int .i64 n, .int .i64 many] w fun e w' => e = .returned (.bool true) ∧ Below w.heap.size w w' := by
  have HLV := hid (w_lives w hL)
  have HLG := fun V hV => hid (p_long V v l hV)
  have HV := hid hv; have HL := hid hL
  have hN70 := (longB_no h1).2
  have hl1 := fun x hx => Nat.le_trans ((longB_no h1).1 x hx) (by omega : 300 ≤ 1000000)
  have hbz : b.size ≤ 100000000 := by omega
  have PO := fun V hV => hid (k_OwnS V v l hV (by omega))
  have P1 := fun V v hV hLV => hid (p_Draw V v l b hV hl1 hbz hLV)
  have P2 := fun V hV => hid (r5_Draw V v l b hV hl1 hbz)
  have P3 := fun V hLV => hid (p_Below V many b hbz hLV)
  have P4 := fun V => hid (r5_Below V many b hbz)
  have P5 := fun V v hV hLV => hid (p_Late V v l n hV hl1 hLV)
  have P6 := fun V hV => hid (r5_Late V v l n hV hl1)
  have P7 := fun V v hV hLV => hid (p_Law V v l n hV hl1 hLV)
  have P8 := fun V hV => hid (r5_Law V v l n hV hl1)
  have P9 := fun V v hV hLV => hid (p_Exact V v l hV hl1 hLV)
  have P10 := fun V hV => hid (r5_Exact V v l hV hl1)
  have PS := fun V u hu hv => hid (k_SameS V u v l l hu hv)
  have PM1 := fun V u v hu hv => hid (k_SameM V u v (lawR l n) (lawR l n) hu hv)
  have PM2 := fun V u v hu hv => hid (k_SameM V u v (exR l) (exR l) hu hv)
  rw [decide_eq_true rfl] at PS PM1 PM2
  have g0 : longB l = false := by simpa using h1
  rw [g0] at HLG
  obtain ⟨a, c, rfl, c1, c2, -⟩ := hv.openS
  obtain ⟨N, hN⟩ : ∃ N, l.length = N := ⟨_, rfl⟩
  rw [hN] at HLG HV c1 PO P2 P6 P8 P10 PS ⊢
  have q0 : decide ((300 : Int) < (b.size : Int)) = false := by simp; omega
  generalize drE l b = e1 at *
  generalize dr3 l b = f1 at *
  generalize bwE many b = e2 at *
  generalize bw3 many b = f2 at *
  generalize lateR l n = s3 at *
  generalize lawE l n = e3 at *
  generalize wsE l = e4 at *
  generalize lawR l n = m1 at *
  generalize exR l = m2 at *
  obtain ⟨p1, p2, p3⟩ := f1
  obtain ⟨t1, t2, t3⟩ := f2
  simp only [dw3] at P1 P2 P3 P4
  clear hL hv hN hl1 hbz hN70 g0 h1 h2
  go_enter Tryz.func7, Tryz.ntmps7
  go_wp2_with fail
  refine HLV.out.mono ?_; rintro e w1 ⟨rfl, hb1⟩
  have y1 := hid hb1; clear hb1
  go_wp2_with fail
  refine (HLG _ (HV.out.call y1.out)).out.mono ?_; rintro e w2 ⟨rfl, rfl⟩
  go_wp2_with fail
  refine (PO _ (HV.out.call y1.out)).out.mono ?_; rintro e w3 ⟨⟨u3, rfl, hu3⟩, hb3⟩
  have y3 := hid (bnext y1.out hb3); have U3 := hid hu3
  obtain ⟨ao, co, rfl, -, -, -⟩ := hu3.openS
  clear hb3 hu3
  obtain ⟨NN, hNN⟩ : ∃ x, l.length = x := ⟨_, rfl⟩
  rw [hNN] at U3 ⊢
  clear hNN
  go_wp2_with fail
  refine (P1 _ _ U3.out (HL.out.call y3.out)).out.mono ?_; rintro e w4 ⟨rfl, hb4⟩
  have y4 := hid (bnext y3.out hb4); have U4 := hid (U3.out.call hb4); clear hb4 U3
  have xa := hid (Blk.new w4 #[.bool p1, .int .i64 (p2 : Nat), .int .i64 (p3 : Nat)] 29)
  have A4 := hid ((Below.refl w4.heap.size w4).alloc (Nat.le_refl _) (.cells #[.bool p1, .int .i64 (p2 : Nat), .int .i64 (p3 : Nat)] 29))
  have z4 := hid (bnext y4.out A4.out)
  go_wp2_with fail
  refine (P2 _ (HV.out.call z4.out)).out.mono ?_; rintro e w5 ⟨rfl, hb5⟩
  have y5 := hid (bnext z4.out hb5); have U5 := hid ((U4.out.call A4.out).call hb5); have xa5 := hid (xa.out.call hb5); clear hb5 U4
  have xb := hid (Blk.new w5 #[.bool p1, .int .i64 (p2 : Nat), .int .i64 (p3 : Nat)] 29)
  have A5 := hid ((Below.refl w5.heap.size w5).alloc (Nat.le_refl _) (.cells #[.bool p1, .int .i64 (p2 : Nat), .int .i64 (p3 : Nat)] 29))
  have z5 := hid (bnext y5.out A5.out)
  have la5 : w4.heap.size < w5.heap.size := xa5.out.lt
  go_wp2_with fail
  refine (P3 _ (HL.out.call z5.out)).out.mono ?_; rintro e w6 ⟨rfl, hb6⟩
  have y6 := hid (bnext z5.out hb6); have U6 := hid ((U5.out.call A5.out).call hb6); have xa6 := hid ((xa5.out.call A5.out).call hb6); have xb6 := hid (xb.out.call hb6); clear hb6 U5
  have xc := hid (Blk.new w6 #[.bool t1, .int .i64 (t2 : Nat), .int .i64 (t3 : Nat)] 29)
  have A6 := hid ((Below.refl w6.heap.size w6).alloc (Nat.le_refl _) (.cells #[.bool t1, .int .i64 (t2 : Nat), .int .i64 (t3 : Nat)] 29))
  have z6 := hid (bnext y6.out A6.out)
  have lb6 : w5.heap.size < w6.heap.size := xb6.out.lt
  go_wp2_with fail
  refine (P4 _).out.mono ?_; rintro e w7 ⟨rfl, hb7⟩
  have y7 := hid (bnext z6.out hb7); have U7 := hid ((U6.out.call A6.out).call hb7); have xa7 := hid ((xa6.out.call A6.out).call hb7); have xb7 := hid ((xb6.out.call A6.out).call hb7); have xc7 := hid (xc.out.call hb7); clear hb7 U6
  have xd := hid (Blk.new w7 #[.bool t1, .int .i64 (t2 : Nat), .int .i64 (t3 : Nat)] 29)
  have A7 := hid ((Below.refl w7.heap.size w7).alloc (Nat.le_refl _) (.cells #[.bool t1, .int .i64 (t2 : Nat), .int .i64 (t3 : Nat)] 29))
  have z7 := hid (bnext y7.out A7.out)
  go_wp2_with fail
  refine (P5 _ _ (U7.out.call A7.out) (HL.out.call z7.out)).out.mono ?_; rintro e w8 ⟨rfl, hb8⟩
  have y8 := hid (bnext z7.out hb8); have U8 := hid ((U7.out.call A7.out).call hb8); have xa8 := hid ((xa7.out.call A7.out).call hb8); have xb8 := hid ((xb7.out.call A7.out).call hb8); have xc8 := hid ((xc7.out.call A7.out).call hb8); have xd8 := hid (xd.out.call hb8); clear hb8 U7
  go_wp2_with fail
  refine (P6 _ (HV.out.call y8.out)).out.mono ?_; rintro e w9 ⟨rfl, hb9⟩
  have y9 := hid (bnext y8.out hb9); have U9 := hid (U8.out.call hb9); have xa9 := hid (xa8.out.call hb9); have xb9 := hid (xb8.out.call hb9); have xc9 := hid (xc8.out.call hb9); have xd9 := hid (xd8.out.call hb9); clear hb9 U8
  clear xa xb xc xd xa5 xa6 xa7 xa8 xb6 xb7 xb8 xc7 xc8 xd8
  have r0 := xa9.out.cell 0
  have r1 := xa9.out.cell 1
  have r2 := xa9.out.cell 2
  have r3 := xb9.out.cell 0
  have r4 := xb9.out.cell 1
  have r5 := xb9.out.cell 2
  have r6 := xc9.out.cell 0
  have r7 := xc9.out.cell 1
  have r8 := xc9.out.cell 2
  have r9 := xd9.out.cell 0
  have ra := xd9.out.cell 1
  have rb := xd9.out.cell 2
  simp at r0 r1 r2 r3 r4 r5 r6 r7 r8 r9 ra rb
  go_wp2_with fail
  refine (P7 _ _ U9.out (HL.out.call y9.out)).out.mono ?_; rintro e w10 ⟨⟨u10, rfl, hu10⟩, hb10⟩
  have y10 := hid (bnext y9.out hb10); have U10 := hid (U9.out.call hb10); have M10 := hid hu10; clear hb10 U9 r0 r1 r2 r3 r4 r5 r6 r7 r8 r9 ra rb
  obtain ⟨aa, ca, rfl⟩ := hu10.openM
  clear hu10
  go_wp2_with fail
  refine (P8 _ (HV.out.call y10.out)).out.mono ?_; rintro e w11 ⟨⟨u11, rfl, hu11⟩, hb11⟩
  have y11 := hid (bnext y10.out hb11); have U11 := hid (U10.out.call hb11); have M11 := hid (M10.out.call hb11); have N11 := hid hu11; clear hb11 U10 M10
  obtain ⟨ab, cb, rfl⟩ := hu11.openM
  clear hu11
  go_wp2_with fail
  refine (P9 _ _ U11.out (HL.out.call y11.out)).out.mono ?_; rintro e w12 ⟨⟨u12, rfl, hu12⟩, hb12⟩
  have y12 := hid (bnext y11.out hb12); have U12 := hid (U11.out.call hb12); have M12 := hid (M11.out.call hb12); have N12 := hid (N11.out.call hb12); have O12 := hid hu12; clear hb12 U11 M11 N11
  obtain ⟨ac, cc, rfl⟩ := hu12.openM
  clear hu12
  go_wp2_with fail
  refine (P10 _ (HV.out.call y12.out)).out.mono ?_; rintro e w13 ⟨⟨u13, rfl, hu13⟩, hb13⟩
  have y13 := hid (bnext y12.out hb13); have U13 := hid (U12.out.call hb13); have M13 := hid (M12.out.call hb13); have N13 := hid (N12.out.call hb13); have O13 := hid (O12.out.call hb13); have R13 := hid hu13; clear hb13 U12 M12 N12 O12
  obtain ⟨ad, cd, rfl⟩ := hu13.openM
  clear hu13
  go_wp2_with fail
  refine (PM1 _ _ _ M13.out N13.out).out.mono ?_; rintro e w14 ⟨rfl, hb14⟩
  have y14 := hid (bnext y13.out hb14); have U14 := hid (U13.out.call hb14); have O14 := hid (O13.out.call hb14); have R14 := hid (R13.out.call hb14); clear hb14
  go_wp2_with fail
  refine (PM2 _ _ _ O14.out R14.out).out.mono ?_; rintro e w15 ⟨rfl, hb15⟩
  have y15 := hid (bnext y14.out hb15); have U15 := hid (U14.out.call hb15); clear hb15
  go_wp2_with fail
  refine (PS _ _ U15.out (HV.out.call y15.out)).out.mono ?_; rintro e w16 ⟨rfl, hb16⟩
  have y16 := hid (bnext y15.out hb16); clear hb16
  go_wp2_with fail
  go_ret
  exact ⟨rfl, y16.out⟩

theorem w_PickCalls (w : World) (v : Value) (l : List ByteArray) (b : ByteArray) (n many : Int) (hv : Row w v (strs l)) (hL : Lay w) :
    Calls Tryz.prog 7 #[v, .string b, .int .i64 n, .int .i64 many] w fun e w' => e = .returned (.bool true) ∧ Below w.heap.size w w' := by
  by_cases h : longB l = true ∨ 300 < b.size
  · exact pc_over w v l b n many hv hL h
  · exact pc_main w v l b n many hv hL (fun e => h (.inl e)) (by omega)
end Go.Proofs.YtjgcjjbnnlnilaaGreatDoor

/- PickCalls: the row and the tied card: for every input the law answers true; conditions: none beyond the row's own. -/
namespace Go.Proofs.YtjgcjjbnnlnilaaGreatDoor
open Go.ChangeShapes Go.WideShapes Go.ChangeAt Go.RowKit
open Go.ChangeMaps (open_string shut_string)
set_option linter.unusedVariables false

set_option maxRecDepth 100000 in
set_option maxHeartbeats 1000000 in
theorem pickCalls_lifted (os : Os) (started : os.Started) (H : Type) (enc : TypeId × Value → H) (F : Stop.Interp) :
    ReturnsInHanded {} Tryz.checked os 7 .any ((OpenSpec.ofChange Rows.pickCallsSpec).preRow enc Tryz.prog Tryz.f7 Rows.pickCallsRow.domain false Rows.pickCallsRow.laid)
      (((OpenSpec.ofChange Rows.pickCallsSpec).at F).post enc Tryz.prog Tryz.f7 false true false false) := by
  refine returnsInHanded_of_row (C := Tryz.checked) (s := OpenSpec.ofChange Rows.pickCallsSpec) own started (by kernel_rfl) Tryz.func7
    (ChangeSpec.witness_shaped (enc := enc) (C := Tryz.checked) (os := os) (s := Rows.pickCallsSpec) (conds := Rows.pickCallsRow.domain) (fn := Tryz.f7) (X := fun w _ => laidMetH Tryz.prog Rows.pickCallsRow.laid w) false (World.laidAll Tryz.prog os Rows.pickCallsRow.laid) #[.slice none 0 0, .string ByteArray.empty, .int .i64 0, .int .i64 0] 8 (World.laidAll_os _ _ _)
      (World.shaped_of_ZipB (by kernel_rfl) (by kernel_rfl)) (by kernel_rfl) (by kernel_rfl) (by kernel_rfl)
      (by rw [MakeChecks.laidMetH_plain _ _ _ (by kernel_rfl)]; exact laidMet_laidAll _ (by kernel_rfl) (by kernel_rfl))) ?_
  intro W base args ds gs before hval0 hW _ _ _ hL hsh _
  have hval : ∀ (j : Nat) t v, Tryz.f7.params[j]? = some t → args[j]? = some v → Value.okWide Tryz.prog W .any base t v := hval0
  have hW' := hW
  obtain ⟨p, q, hA0, hV, rfl, hfz, hnd⟩ := hW
  have hA : DataW.TrodAll enc Tryz.prog W 0 (fun _ => true) true Tryz.f7.params.toList args.toList ds p := hA0
  rw [Tryz.params7] at hA hval
  obtain ⟨v0, vs0, d0, ds0, p0, q0, hargs, rfl, rfl, h0, r0⟩ := trodAll_cons hA
  obtain ⟨v1, vs1, d1, ds1, p1, q1, rfl, rfl, rfl, h1, r1⟩ := trodAll_cons r0
  obtain ⟨v2, vs2, d2, ds2, p2, q2, rfl, rfl, rfl, h2, r2⟩ := trodAll_cons r1
  obtain ⟨v3, vs3, d3, ds3, p3, q3, rfl, rfl, rfl, h3, r3⟩ := trodAll_cons r2
  obtain ⟨rfl, rfl, rfl⟩ := trodAll_nil r3
  obtain rfl : args = #[v0, v1, v2, v3] := by cases args; simp_all
  obtain ⟨rfl, rfl⟩ := trodVars_none hV
  have k0 := h0
  have lt0 : ∀ x ∈ p0, x.block < W.heap.size := by obtain ⟨m, hm⟩ := k0; exact DataW.trod_lt m _ _ _ hm
  have k1 := h1
  have lt1 : ∀ x ∈ p1, x.block < W.heap.size := by obtain ⟨m, hm⟩ := k1; exact DataW.trod_lt m _ _ _ hm
  have k2 := h2
  have lt2 : ∀ x ∈ p2, x.block < W.heap.size := by obtain ⟨m, hm⟩ := k2; exact DataW.trod_lt m _ _ _ hm
  have k3 := h3
  have lt3 : ∀ x ∈ p3, x.block < W.heap.size := by obtain ⟨m, hm⟩ := k3; exact DataW.trod_lt m _ _ _ hm
  obtain ⟨l0, R0, Z0⟩ := open_txts Tryz.underlying22 Tryz.underlying23 (by kernel_rfl) (hval 0 22 v0 rfl rfl) h0
  obtain ⟨a1, rfl, rfl, rfl, w1⟩ := open_string Tryz.underlying24 (hval 1 24 v1 rfl rfl) h1
  have z1 : a1.size ≤ 9223372036854775807 := by unfold maxLen at w1; omega
  obtain ⟨a2, rfl, rfl, rfl, w2⟩ := open_int Tryz.underlying3 (hval 2 3 v2 rfl rfl) h2
  have b2 := bounds_i64 w2
  obtain ⟨a3, rfl, rfl, rfl, w3⟩ := open_int Tryz.underlying3 (hval 3 3 v3 rfl rfl) h3
  have b3 := bounds_i64 w3
  clear hA0 hval0
  refine (w_PickCalls W v0 l0 a1 a2 a3 R0 (lay_of hL hsh)).mono fun e W' ⟨he, bel⟩ => ?_
  subst he
  exact ⟨_, rfl, _, _, _, [], _, [], hW', trodAll_mk1 (shut_bool Tryz.underlying4 _), (trodAll_cons_mk (Below.trod laidOut (by kernel_rfl) (of_decide_eq_true (by kernel_rfl)) k0 bel lt0) (trodAll_cons_mk (Below.trod laidOut (by kernel_rfl) (of_decide_eq_true (by kernel_rfl)) k1 bel lt1) (trodAll_cons_mk (Below.trod laidOut (by kernel_rfl) (of_decide_eq_true (by kernel_rfl)) k2 bel lt2) (trodAll_cons_mk (Below.trod laidOut (by kernel_rfl) (of_decide_eq_true (by kernel_rfl)) k3 bel lt3) trodAll_mk0)))), rfl, bel.frame _, fun h => by cases h⟩

theorem pickCalls_holds : Rows.pickCallsRow.holds Tryz.pinned (OpenSpec.ofChange Rows.pickCallsSpec) :=
  OpenClaim.holds_of_cond 7 Tryz.f7 rfl rfl rfl rfl rfl rfl rfl ⟨rfl, rfl, rfl, rfl, rfl⟩ rfl rfl rfl rfl rfl (by kernel_rfl) Tryz.func7 (by kernel_rfl)
    (of_decide_eq_true (by kernel_rfl)) (by unfold Func.isWrapper; first | (rw [if_pos (by decide +kernel)]; kernel_rfl) | (rw [if_neg (by decide +kernel)]; exact ⟨rfl, rfl⟩))
    (fun os started H enc _ F0 => by rw [OpenClaim.pre_eq_preRow]; exact pickCalls_lifted os started H enc F0)

theorem pickCalls_card : Rows.PickCallsCardSaid :=
  Claim7.holds_tied_plain_at .later [] [.data, .data, .data, .data, .sentinel, .sentinel, .pinned] true Rows.pickCallsCard.stood.harness true
    pickCalls_holds (fun _ h => by cases h) (by kernel_rfl) (fun _ h => by cases h) pickCalls_row_tie rfl ⟨rfl, rfl⟩ (by kernel_rfl) rfl
    (fun f fn hf hfn => by
      obtain rfl : f = 7 := Option.some.inj ((show Tryz.prog.funcNamed "privhouse/privhouselaw05.PickCalls" = some 7 by kernel_rfl).symm.trans hf) |>.symm
      obtain rfl : fn = Tryz.f7 := (Option.some.inj (Tryz.func7.symm.trans hfn)).symm
      exact ⟨by kernel_rfl, fun j t ht => by
        rw [Tryz.params7] at ht
        have hm : t ∈ [22, 24, 3, 3] := by simpa using Array.mem_of_getElem? ht
        have hall : ([22, 24, 3, 3].all fun u => !Tryz.prog.wantsStandIn u) = true := by kernel_rfl
        exact (show Tryz.prog.wantsStandIn t = false by simpa using List.all_eq_true.1 hall t hm)⟩)
    (by kernel_rfl)
#print axioms pickCalls_card
end Go.Proofs.YtjgcjjbnnlnilaaGreatDoor
