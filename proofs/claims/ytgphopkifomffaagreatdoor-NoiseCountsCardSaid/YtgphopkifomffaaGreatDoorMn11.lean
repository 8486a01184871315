/- Texts that the proof rests on, merged: Ncv, Ncw. -/
import Derived.Test.YtgphopkifomffaaGreatDoorMn10
import Derived.Deep.DeepCutAuto
import Derived.Sort.Walk0
import Derived.WalkLawsBesides
namespace Go.Proofs.YtgphopkifomffaaGreatDoor
open Go.RowKit Go.Shelf
open Go.Lib (decDigits nDigits)
set_option linter.unusedVariables false
set_option linter.unusedSimpArgs false
set_option maxRecDepth 100000 in
set_option maxHeartbeats 8000000 in
theorem nct_b2 (w : World) (x y : Int) (a : ByteArray) (n : Nat) (ha : a.size ≤ 20) (hn : n ≤ 4) (hL : LayB w) :
    Calls Tryz.prog 3 #[.int .i64 x, .int .i64 y, .bool true, .string a, .int .i64 (n : Nat)] w fun e w' => e = .returned (.bool true) ∧ Below w.heap.size w w' := by
  have HLV := hid (w_lives21 w hL)
  have HL := hid hL
  obtain ⟨i0, hi, hz0, hz1, hz2⟩ := info_parts info_intO
  obtain ⟨j0, hj0, hy0, hy1, hy2⟩ := info_parts info_bits
  obtain ⟨s0, hs, hs0, hs1, hs2⟩ := info_parts info_strO
  have t0 : decide ((20 : Int) < (a.size : Int)) = false := decide_eq_false (by omega)
  have t1 : decide ((n : Int) < 0) = false := decide_eq_false (by omega)
  have t2 : decide ((4 : Int) < (n : Int)) = false := decide_eq_false (by omega)
  have P1 := fun V v hv hV => hid (na_Law V v [x, y] a (n : Nat) hv (by omega) (fun _ => by
    have h1 : (2 * n + 1) ^ 2 ≤ 9 ^ 2 := Nat.pow_le_pow_left (by omega) 2
    rw [Int.toNat_natCast]
    show (2 * n + 1) ^ 2 ≤ 900
    omega) hV)
  have P3 := fun V v u b hv hu hb hV => hid (na_Add V v u [x, y] a b hv hu (by omega) hb hV)
  have PT := fun V v l hv hl hr => hid (w_text V v l hv hl hr)
  have HA := hid ha; have HN := hid hn
  obtain ⟨M, hM⟩ : ∃ M, n * 2 = M := ⟨_, rfl⟩
  have HM := hid hM
  have wm : IntKind.i64.wrap ((n : Int) * 2) = (M : Nat) := by rw [IntWalk.i64_in _ ⟨by omega, by omega⟩]; omega
  have HWM := hid wm
  have HM8 := hid (show M ≤ 8 by omega)
  clear hM
  clear hL hn ha
  go_enter Tryz.func3, Tryz.ntmps3
  go_wp2_with fail
  refine HLV.out.mono ?_; rintro e w1 ⟨rfl, hb1⟩
  have y1 := hid hb1; clear hb1
  have OW := hid (World.ownsRow_lit (e := 3) (size := 1) (base := w1.heap.size) w1 #[.int .i64 x] 1 (Nat.le_refl _) (by unfold maxLen; omega) rfl)
  have BW := hid ((Below.refl w1.heap.size w1).alloc (Nat.le_refl _) (.cells #[.int .i64 x] 3))
  have OW2 := hid (owns_call OW.out ((Below.refl _ _).alloc (Nat.le_refl _) (.cells #[.int .i64 y] 3)))
  have BW2 := hid (BW.out.alloc BW.out.size (.cells #[.int .i64 y] 3))
  go_wp2_with (at_builtin; refine wpList_append_own_at _ rfl _ _ 24 rfl w1.heap.size 3 i0 (.int .i64 0) 1 8 Tryz.underlying24 hi hz0 hz1 hz2 rfl (by decide) _ 1 [.int .i64 x] rfl OW2.out ⟨w1.heap.size + 1, 0, none⟩ 1 1 [.int .i64 y] rfl rfl (news_blk (by simpa using Blk.new (w1.alloc (.cells #[.int .i64 x] 3)) #[.int .i64 y] 3)) (by simp [Value.oneCell']) (by unfold maxLen; omega) (by omega) (by simp; omega) ?_
               intro v1' w3 hown hgrow _ hat
               have O3 := hid hown
               have B3 := hid (owned_below OW2.out BW2.out hgrow)
               obtain ⟨e3, r3, rfl⟩ := owns_ex hown
               have R3 := hid (show Row w3 (.slice e3 2 r3) (zs [x, y]) from Row.of_owns O3.out)
               clear hown hgrow hat O3)
  have FB : Hid (nlE [x, y] a (n : Nat) ≠ 0 → (nlR [x, y] a (n : Nat)).length = 0) := fun h => by unfold nlR; rw [if_neg h]; rfl
  have FG := hid (fun (h : nlE [x, y] a (n : Nat) = 0) K C hT => nct_main (K := K) (C := C) h (by have := HN.out; omega) hT)
  have FS := hid (fun (i : Nat) (p q : ByteArray × ByteArray) hp hq => nlR_strict [x, y] a (n : Nat) (i := i) (p := p) (q := q) hp hq)
  have FA := hid (fun (h : nlE [x, y] a (n : Nat) = 0) (l : List UInt8) (hl : l.length = M) hb => nct_add (l := l) h (by have := HN.out; omega) (show l.length = n * ([x, y] : List Int).length by rw [hl]; exact (HM.out.symm)) hb)
  have FR := hid (fun (h : nlE [x, y] a (n : Nat) = 0) (l : List UInt8) (hl : l.length = M) hb ys h2 => nct_rng (l := l) (ys := ys) h (by have := HN.out; omega) (show l.length = n * ([x, y] : List Int).length by rw [hl]; exact (HM.out.symm)) hb h2)
  rw [show n * ([x, y] : List Int).length = M from (show n * ([x, y] : List Int).length = M from HM.out)] at FG
  obtain ⟨E, hE⟩ : ∃ E, nlE [x, y] a (n : Nat) = E := ⟨_, rfl⟩
  obtain ⟨BL, hBL⟩ : ∃ E, nlR [x, y] a (n : Nat) = E := ⟨_, rfl⟩
  rw [hE, hBL] at P1 FB FG
  rw [hBL] at FS
  rw [hE] at FA FR
  clear hE hBL
  by_cases hE0 : E = 0
  case neg =>
    have e1 : (E == 0) = false := by simpa using hE0
    have e2 : (E != 0) = true := by simpa using hE0
    have FB := hid (FB.out hE0)
    clear hE0 FG FA FS FR
    refine (P1 _ _ R3.out (HL.out.call (bnext y1.out B3.out))).out.mono ?_; rintro e w4 ⟨⟨u, rfl, hu⟩, hb4⟩
    have y4 := hid (bnext y1.out (bnext B3.out hb4))
    obtain ⟨a4, k4, rfl, -, -, -⟩ := hu.ex
    rw [FB.out]
    clear hb4 hu
    go_wp2_with fail
    go_ret
    exact ⟨rfl, y4.out⟩
  case pos =>
    subst hE0
    have PA := fun V => hid (r3_All V M (by have := HM8.out; omega))
    obtain ⟨T, hT⟩ : ∃ T, 2 ^ M = T := ⟨_, rfl⟩
    have HAL : Hid ((allW M).length = T) := by show _ = _; rw [allW_length, hT]
    have hT16 : T ≤ 256 := by rw [← hT]; exact Nat.le_trans (Nat.pow_le_pow_right (by omega) (show M ≤ 8 by have := HM8.out; omega)) (by decide)
    have HTT := hid hT; have HT5 := hid hT16
    rw [hT] at FG
    clear FB hT hT16
    refine (P1 _ _ R3.out (HL.out.call (bnext y1.out B3.out))).out.mono ?_; rintro e w4 ⟨⟨u, rfl, hu⟩, hb4⟩
    have y4 := hid (bnext y1.out (bnext B3.out hb4))
    have U4 := hid hu; have R4 := hid (R3.out.call hb4)
    obtain ⟨a4, k4, rfl, u1, u2, -⟩ := hu.ex
    obtain ⟨D, hD⟩ : ∃ D, BL.length = D := ⟨_, rfl⟩
    rw [hD] at U4 u1 FG ⊢
    have HD := hid hD
    clear hb4 hu hD
    go_wp2_with fail
    refine (PA _).out.mono ?_; rintro e w5 ⟨⟨v5, rfl, hv5⟩, hb5⟩
    have y5 := hid (bnext y4.out hb5)
    have U5 := hid (U4.out.call hb5); have R5 := hid (R4.out.call hb5)
    have V5 := hid hv5
    obtain ⟨a5, k5, rfl, s1, s2, -⟩ := hv5.openS
    rw [List.length_map, HAL.out] at V5 s1 ⊢
    clear hb5 hv5
    go_wp2_with fail
    go_loopw [16, 17, 18, 19, 20, 21, 22, 23, 24] (fun s16 s17 s18 s19 s20 s21 s22 s23 s24 wr => ∃ (j : Nat) (K : List ByteArray) (C : List Nat), s18 = .int .i64 (j : Nat) ∧ j ≤ T ∧ Hid (K.length ≤ j) ∧ Hid (Tal (nkey [x, y] a n) ((allW M).take j) K C) ∧ Hid (TwoK w5.heap.size wr s16 s17 K C) ∧ Hid (Below w5.heap.size w5 wr)) (fun s16 s17 s18 s19 s20 s21 s22 s23 s24 wr => T - (intOf s18).toNat)
    case atStart => exact ⟨0, [], [], rfl, Nat.zero_le _, Nat.le_refl _, Tal.nil _, TwoK.nil _ _, Below.refl _ _⟩
    case round =>
      obtain ⟨j, K, C, rfl, hj, hKj, hTl, hO, hB⟩ := hrel
      have yr := hid (bnext y5.out hB.out)
      obtain ⟨LK, hLK⟩ : ∃ n, K.length = n := ⟨_, rfl⟩
      have hLC : C.length = LK := by rw [hTl.out.len, hLK]
      have HLK := hid hLK; have HLC := hid hLC
      obtain ⟨ak, ck, ek⟩ := owns_ex hO.out.o1
      obtain ⟨ac, cc, ec⟩ := owns_ex hO.out.o2
      rw [hLK] at ek
      rw [hLC] at ec
      subst ek ec
      have hKj2 : LK ≤ j := by rw [← hLK]; exact hKj.out
      have HKJ := hid hKj2
      clear hLK hLC hKj2 hKj
      by_cases hlt : j < T
      · obtain ⟨l, hl⟩ : ∃ l, (allW M)[j]? = some l := ⟨_, List.getElem?_eq_getElem (by rw [HAL.out]; exact hlt)⟩
        have hlm := List.mem_of_getElem? hl
        obtain ⟨g', o, rfl, hg', hc⟩ := V5.out.at (strs_get (show ((allW M).map tb)[j]? = some (tb l) by rw [List.getElem?_map, hl]; rfl))
        have hc2 := (hB.out.cell (p := ⟨g', o + j, none⟩) hg').trans hc
        have HT : Hid ((allW M).take (j + 1) = (allW M).take j ++ [l]) := by show (allW M).take (j + 1) = _; rw [List.take_add_one, hl]; rfl
        have hll := allW_len hlm
        obtain ⟨q1, q2, q3⟩ := FA.out (by simp) l hll (allW_bits hlm)
        have q4 := FR.out (by simp) l hll (allW_bits hlm)
        have q5 := fun ys h => nct_len (c := [x, y]) (a := a) (n := n) (l := l) (ys := ys) h
        have q1 : naE [x, y] a ((chk n 2 l).map tb) = 0 := q1
        have q2 : naO [x, y] a ((chk n 2 l).map tb) = nzO true a [x, y] ((chk n 2 l).map tb) := q2
        have q3 : nkO (naO [x, y] a ((chk n 2 l).map tb)) = nkey [x, y] a n l := q3
        have q4 : ∀ ys, nzO true a [x, y] ((chk n 2 l).map tb) = some ys → ∀ z ∈ ys, -1000000000000000000 ≤ z ∧ z ≤ 1000000000000000000 := fun ys h => q4 ys h
        have q5 : ∀ ys, nzO true a [x, y] ((chk n 2 l).map tb) = some ys → ys.length = 2 := fun ys h => q5 ys h
        rw [← q2] at q4 q5
        obtain ⟨X, hXX⟩ : ∃ X, tb l = X := ⟨_, rfl⟩
        have sX : X.size = M := by rw [← hXX, tb_size, hll]
        rw [hXX] at hc2
        have f0 : (0 : Int) ≤ (j : Int) := by omega
        have f1 : (j : Int) < (T : Int) := by omega
        have hn4 := HN.out; have hmm := HM8.out
        have g1 : n ≤ M := by have := HM.out; omega
        have wj : IntKind.i64.wrap ((j : Int) + 1) = ((j + 1 : Nat) : Int) := by have := HT5.out; rw [IntWalk.i64_in _ ⟨by omega, by omega⟩]; omega
        have p1 : X.extract 0 n = tb (l.take n) := by
          apply ba_ext
          rw [extract_list, tb_list, ← hXX, tb_list, List.drop_zero, Nat.sub_zero]
        have p2 : X.extract n M = tb ((l.drop n).take n) := by
          have hmn := HM.out
          apply ba_ext
          rw [extract_list, tb_list, ← hXX, tb_list, show M - n = n by omega]
        have HBB := hid (show (chk n 2 l).map tb = [X.extract 0 n, X.extract n M] by rw [p1, p2]; rfl)
        have HS : Hid (∀ b ∈ (chk n 2 l).map tb, b.size ≤ 100000000) := fun b hb => by
          obtain ⟨q, hq', rfl⟩ := List.mem_map.1 hb
          rw [tb_size, (chk_bits (L := 2) (hll.trans HM.out.symm) (allW_bits hlm) q hq').1]
          omega
        have PD := fun V v u hv hu hV => hid (P3 V v u ((chk n 2 l).map tb) hv hu HS.out hV).out
        rw [q1] at PD
        obtain ⟨O, hOO⟩ : ∃ O, naO [x, y] a ((chk n 2 l).map tb) = O := ⟨_, rfl⟩
        rw [hOO] at PD q3 q4 q5
        have HR : Hid (∀ z ∈ O.getD [], -1000000000000000000 ≤ z ∧ z ≤ 1000000000000000000) := fun z hz => by
          cases O with
          | none => cases hz
          | some ys => exact q4 ys rfl z hz
        have HO5 := hid q5
        have HXX := hid hXX; have SX := hid sX; have HJ := hid hlt; have HK3 := hid q3
        clear hl hlm hc hg' hll hXX hn4 hmm hlt hj p1 p2 q1 q2 q3 q4 q5 hOO
        have OB := hid (World.ownsRow_lit (e := 34) (size := 1) (base := wr.heap.size) wr #[.string (X.extract 0 n)] 1 (Nat.le_refl _) (by unfold maxLen; omega) rfl)
        have BB := hid ((Below.refl wr.heap.size wr).alloc (Nat.le_refl _) (.cells #[.string (X.extract 0 n)] 34))
        have KC := hid ((BB.out.cell (p := ⟨g', o + j, none⟩) (cell_lt hc2)).trans hc2)
        have kc := KC.out
        have OB2 := hid (owns_call OB.out ((Below.refl _ _).alloc (Nat.le_refl _) (.cells #[.string (X.extract n M)] 34)))
        have BB2 := hid (BB.out.alloc BB.out.size (.cells #[.string (X.extract n M)] 34))
        go_wp2_with (at_builtin; refine wpList_append_own_at _ rfl _ _ 30 rfl wr.heap.size 34 j0 (.string ⟨#[]⟩) 1 16 Tryz.underlying30 hj0 hy0 hy1 hy2 rfl (by decide) _ 1 [.string (X.extract 0 n)] rfl OB2.out ⟨wr.heap.size + 1, 0, none⟩ 1 1 [.string (X.extract n M)] rfl rfl (news_blk (by simpa using Blk.new (wr.alloc (.cells #[.string (X.extract 0 n)] 34)) #[.string (X.extract n M)] 34)) (by simp [Value.oneCell']) (by unfold maxLen; omega) (by omega) (by simp; omega) ?_
                     intro v1' w7 hown hgrow _ hat
                     have O7 := hid hown
                     have d7 := hid (owned_below OB2.out BB2.out hgrow)
                     obtain ⟨e7, r7, rfl⟩ := owns_ex hown
                     have RB := hid (show Row w7 (.slice e7 2 r7) (strs ((chk n 2 l).map tb)) by rw [HBB.out]; exact Row.of_owns O7.out)
                     clear hown hgrow hat O7)
        refine (PD _ _ _ ((R5.out.call hB.out).call d7.out) RB.out (HL.out.call (bnext yr.out d7.out))).out.mono ?_; rintro e w9 ⟨⟨y9, rfl, hy9⟩, hb9⟩
        have x9 := hid (bnext d7.out hb9)
        have Y9 := hid hy9
        obtain ⟨a9, k9, rfl, z1, z2, -⟩ := hy9.openZ
        obtain ⟨LX, hLX⟩ : ∃ n, (O.getD []).length = n := ⟨_, rfl⟩
        have hLX3 : LX ≤ 300 := by
          cases O with
          | none => rw [← hLX]; simp
          | some ys => rw [← hLX]; show ys.length ≤ 300; rw [HO5.out ys rfl]; omega
        have HLX := hid hLX
        rw [hLX] at Y9 z1 ⊢
        clear hb9 hy9 hLX
        go_wp2_with fail
        refine (PT _ _ _ Y9.out (by rw [HLX.out]; exact hLX3) HR.out).out.mono ?_; rintro e w10 ⟨rfl, hb10⟩
        have x10 := hid (bnext x9.out hb10)
        have O10 := hid (hO.out.below x10.out)
        have B10 := hid (hB.out.trans (x10.out.mono hB.out.size))
        clear hb10
        obtain ⟨KY, hKY⟩ : ∃ s, nkey [x, y] a n l = s := ⟨_, rfl⟩
        have HKY := hid hKY
        rw [hKY] at HK3
        have hb := hTl.out.bump l
        rw [hKY] at hb
        have HB2 := hid hb
        have HJK := HKJ.out; have HT6 := HT5.out; have HJ2 := HJ.out
        have wl : IntKind.i64.wrap ((LK : Int) + 1) = ((LK + 1 : Nat) : Int) := by rw [IntWalk.i64_in _ ⟨by omega, by omega⟩]; omega
        have HKB := hid (show LK ≤ 256 by omega)
        clear hb hKY HJK HT6 HJ2 hLX3
        cases O with
        | none =>
          have hKK := hid (show (⟨#[108, 97, 116, 101]⟩ : ByteArray) = KY from HK3.out)
          clear PD PT HR HO5 HLX Y9
          go_wp2_with fail
          rw [hKK.out]
          clear hKK
          go_loopw [24] (fun s24 wx => ∃ i : Nat, s24 = .int .i64 (i : Nat) ∧ i ≤ LK ∧ Hid (∀ (m : Nat) (k : ByteArray), m < i → K[m]? = some k → k ≠ KY) ∧ w10 = wx) (fun s24 wx => LK - (intOf s24).toNat)
          case atStart => exact ⟨0, rfl, Nat.zero_le _, fun m k hm => absurd hm (by omega), rfl⟩
          case round =>
            obtain ⟨i, rfl, hi2, hne, hww⟩ := hrel
            subst hww
            by_cases hiL : i < LK
            · obtain ⟨kk, hkk⟩ : ∃ kk, K[i]? = some kk := ⟨_, List.getElem?_eq_getElem (by rw [HLK.out]; exact hiL)⟩
              obtain ⟨gk, ok, rfl, hgk, hck⟩ := (show Row w10 (.slice ak LK ck) (strs K) from Row.of_owns O10.out.o1).at (strs_get hkk)
              have r0 : (0 : Int) ≤ (i : Int) := by omega
              have r1 : (i : Int) < (LK : Int) := by omega
              have wi : IntKind.i64.wrap ((i : Int) + 1) = ((i + 1 : Nat) : Int) := by have := HKB.out; rw [IntWalk.i64_in _ ⟨by omega, by omega⟩]; omega
              have HIL := hid hiL; have HKKi := hid hkk
              by_cases hkY : kk = KY
              · subst hkY
                have q9 : (kk.toList == kk.toList) = true := by simp
                have q8 : (kk.toList != kk.toList) = false := by simp
                have qe : ((i : Int) == (LK : Int)) = false := by rw [beq_eq_false_iff_ne]; omega
                have qe2 : (i == LK) = false := by rw [beq_eq_false_iff_ne]; omega
                have hix : Hid (kix K kk = i) := kix_stop hne.out (.inr hkk) (by rw [HLK.out]; omega)
                have hin : Hid (¬ kix K kk = K.length) := by show ¬ _; rw [hix.out, HLK.out]; omega
                obtain ⟨c, hcc, hTn⟩ := HB2.out
                rw [tlC, if_neg hin.out] at hcc hTn
                rw [tlK, if_neg hin.out, hix.out] at hTn
                rw [hix.out] at hcc
                have hc256 : c ≤ 256 := by
                  obtain ⟨d1, -⟩ := hTl.out.cnt i kk hkk
                  rw [hcc] at d1
                  injection d1 with d1
                  have d2 := List.countP_le_length (p := fun m => decide (nkey [x, y] a n m = kk)) (l := (allW M).take j)
                  rw [List.length_take, HAL.out] at d2
                  have := HT5.out
                  omega
                obtain ⟨gc, oc, rfl, hgc, hccell⟩ := (show Row w10 (.slice ac LK cc) (ints .i64 C) by have := Row.of_owns O10.out.o2; exact this).at (ints_get hcc)
                have e0 := owns_zero O10.out.o2
                subst e0
                rw [Nat.zero_add] at hccell
                have OO2 := O10.out
                rw [← HLC.out] at OO2
                have fr := TwoK.free OO2 i
                have wc := (show IntKind.i64.wrap ((c : Int) + 1) = ((c + 1 : Nat) : Int) by rw [IntWalk.i64_in _ ⟨by omega, by omega⟩]; omega)
                have ON := hid (OO2.set2 i (c + 1))
                have BN := hid (B10.out.setCell (p := ⟨gc, i, none⟩) (OO2.o2.lt gc rfl).1 (.int .i64 ((c + 1 : Nat) : Int)))
                have TN := hid hTn
                rw [List.length_set, HLC.out] at ON
                have TT := hid (show Tal (nkey [x, y] a n) ((allW M).take (j + 1)) K (C.set i (c + 1)) by rw [HT.out]; exact TN.out)
                clear hkk hgk hgc hcc hTn hc256 OO2 hiL hi2 hix hin TN hne HKY HB2 HK3
                go_wp2_with fail
                go_roundw
                case rel => exact ⟨j + 1, K, C.set i (c + 1), by go_num, by have := HJ.out; omega, by have := HKJ.out; have := HLK.out; show _ ≤ _; omega, TT, ON, BN⟩
                case measure => simp [intOf] <;> (have := HJ.out; omega)
              · have q9 : (kk.toList == KY.toList) = false := by rw [beq_eq_false_iff_ne]; exact fun e => hkY (ba_ext (by rw [← Lib.toList_data, ← Lib.toList_data, e]))
                have q8 : (kk.toList != KY.toList) = true := by rw [bne, q9]; rfl
                have hne2 : Hid (∀ (m : Nat) (k : ByteArray), m < i + 1 → K[m]? = some k → k ≠ KY) := fun m k hm hk => by
                  by_cases e : m = i
                  · subst e; rw [HKKi.out] at hk; rw [← Option.some.inj hk]; exact hkY
                  · exact hne.out m k (by omega) hk
                clear hkk hgk hkY hiL hi2 hne
                go_wp2_with fail
                go_roundw
                case rel => exact ⟨i + 1, by go_num, by have := HIL.out; omega, hne2, by simp⟩
                case measure => simp [intOf] <;> (have := HIL.out; omega)
            · obtain rfl : i = LK := by omega
              have qe : ((i : Int) == (i : Int)) = true := by simp
              have qe2 : (i == i) = true := by simp
              have ql : decide ((i : Int) < (i : Int)) = false := by simp
              have hix : Hid (kix K KY = K.length) := kix_stop (by rw [HLK.out]; exact hne.out) (.inl rfl) (Nat.le_refl _)
              obtain ⟨c, hcc, hTn⟩ := HB2.out
              rw [tlC, if_pos hix.out] at hcc hTn
              rw [tlK, if_pos hix.out, hix.out, HLK.out] at hTn
              rw [hix.out, HLK.out, ← HLC.out, List.getElem?_append_right (Nat.le_refl _), Nat.sub_self] at hcc
              obtain rfl : 0 = c := Option.some.inj hcc
              have TT := hid (show Tal (nkey [x, y] a n) ((allW M).take (j + 1)) (K ++ [KY]) ((C ++ [0]).set i (0 + 1)) by rw [HT.out]; exact hTn)
              have T1 := hid (O10.out.below ((Below.refl _ _).alloc (Nat.le_refl _) (.cells #[.string KY] 9)))
              have b1 := hid (B10.out.alloc B10.out.size (.cells #[.string KY] 9))
              have k1 := hid (Blk.new w10 #[.string KY] 9)
              have fz : (0 : Int) ≤ (i : Int) := by omega
              have fl : (i : Int) < ((i + 1 : Nat) : Int) := by omega
              have fl2 : (i : Int) < (i : Int) + 1 := by omega
              have wc1 : IntKind.i64.wrap ((0 : Int) + 1) = 1 := rfl
              clear hcc hTn hiL hi2 hne HKY HB2 HK3
              go_wp2_with (first
                | (at_builtin; refine wpList_append_own_at _ rfl _ _ 24 rfl w5.heap.size 3 i0 (.int .i64 0) 1 8 Tryz.underlying24 hi hz0 hz1 hz2 rfl (by decide) _ i (ints .i64 C) rfl (by have h := (T3.out.below ((Below.refl _ _).alloc (Nat.le_refl _) (.cells #[.int .i64 0] 3))).o2; rw [HLC.out] at h; exact h) ⟨w13.heap.size, 0, none⟩ 1 1 [.int .i64 0] rfl rfl (news_blk (Blk.new w13 #[.int .i64 0] 3)) (by simp [Value.oneCell']) (by have := HKB.out; unfold maxLen; omega) (by have := HKB.out; omega) (by have := b3.out.size; simp; omega) ?_
                   intro v2' w15 hown hgrow _ hat
                   have hown2 : w15.ownsRow w5.heap.size 3 1 v2' (C.length + 1) (ints .i64 C ++ [.int .i64 ((0 : Nat) : Int)]) := by rw [HLC.out]; exact hown
                   have T5 := hid ((T3.out.below ((Below.refl _ _).alloc (Nat.le_refl _) (.cells #[.int .i64 0] 3))).app2 (x := 0) hown2 hgrow hat)
                   have b5 := hid (owned_below (T3.out.below ((Below.refl _ _).alloc (Nat.le_refl _) (.cells #[.int .i64 0] 3))).o2 (b3.out.alloc b3.out.size (.cells #[.int .i64 0] 3)) hgrow)
                   obtain ⟨gq, cq, rfl⟩ := owns_some hown (by omega)
                   have l1 : (C ++ [0]).length = i + 1 := by rw [List.length_append, HLC.out]; rfl
                   have T6 := T5.out
                   have hcell := TwoK.cell2 T6 (show (C ++ [0])[i]? = some 0 by rw [← HLC.out, List.getElem?_append_right (Nat.le_refl _), Nat.sub_self]; rfl)
                   rw [← l1] at T6
                   have fr := TwoK.free T6 i
                   have ON := hid (T6.set2 i 1)
                   have BN := hid (b5.out.setCell (p := ⟨gq, i, none⟩) (T6.o2.lt gq rfl).1 (.int .i64 ((1 : Nat) : Int)))
                   rw [List.length_set, l1] at ON
                   clear hown hown2 hgrow hat T6)
                | (at_builtin; refine wpList_append_own_at _ rfl _ _ 33 rfl w5.heap.size 9 s0 (.string ⟨#[]⟩) 1 16 Tryz.underlying33 hs hs0 hs1 hs2 rfl (by decide) _ i (strs K) rfl (by have h := T1.out.o1; rw [HLK.out] at h; exact h) ⟨w10.heap.size, 0, none⟩ 1 1 [.string KY] rfl rfl (news_blk k1.out) (by simp [Value.oneCell']) (by have := HKB.out; unfold maxLen; omega) (by have := HKB.out; omega) (by exact b1.out.size) ?_
                   intro v1' w13 hown hgrow _ hat
                   have hown2 : w13.ownsRow w5.heap.size 9 1 v1' (K.length + 1) (strs K ++ [.string KY]) := by rw [HLK.out]; exact hown
                   have T3 := hid (T1.out.app1 hown2 hgrow hat)
                   have b3 := hid (owned_below T1.out.o1 b1.out hgrow)
                   obtain ⟨ga, ca, rfl⟩ := owns_some hown (by omega)
                   clear hown hown2 hgrow hat))
              go_roundw
              case rel => exact ⟨j + 1, K ++ [KY], (C ++ [0]).set i (0 + 1), by go_num, by have := HJ.out; omega, by have := HKJ.out; have := HLK.out; show _ ≤ _; rw [List.length_append]; show _ + 1 ≤ _; omega, TT, ON, BN⟩
              case measure => simp [intOf] <;> (have := HJ.out; omega)
        | some ys =>
          have hKK := hid (show jn ys = KY from HK3.out)
          obtain rfl : LX = 2 := by rw [← HLX.out]; exact HO5.out ys rfl
          clear PD PT HR HO5 HLX Y9
          go_wp2_with fail
          rw [hKK.out]
          clear hKK
          go_loopw [24] (fun s24 wx => ∃ i : Nat, s24 = .int .i64 (i : Nat) ∧ i ≤ LK ∧ Hid (∀ (m : Nat) (k : ByteArray), m < i → K[m]? = some k → k ≠ KY) ∧ w10 = wx) (fun s24 wx => LK - (intOf s24).toNat)
          case atStart => exact ⟨0, rfl, Nat.zero_le _, fun m k hm => absurd hm (by omega), rfl⟩
          case round =>
            obtain ⟨i, rfl, hi2, hne, hww⟩ := hrel
            subst hww
            by_cases hiL : i < LK
            · obtain ⟨kk, hkk⟩ : ∃ kk, K[i]? = some kk := ⟨_, List.getElem?_eq_getElem (by rw [HLK.out]; exact hiL)⟩
              obtain ⟨gk, ok, rfl, hgk, hck⟩ := (show Row w10 (.slice ak LK ck) (strs K) from Row.of_owns O10.out.o1).at (strs_get hkk)
              have r0 : (0 : Int) ≤ (i : Int) := by omega
              have r1 : (i : Int) < (LK : Int) := by omega
              have wi : IntKind.i64.wrap ((i : Int) + 1) = ((i + 1 : Nat) : Int) := by have := HKB.out; rw [IntWalk.i64_in _ ⟨by omega, by omega⟩]; omega
              have HIL := hid hiL; have HKKi := hid hkk
              by_cases hkY : kk = KY
              · subst hkY
                have q9 : (kk.toList == kk.toList) = true := by simp
                have q8 : (kk.toList != kk.toList) = false := by simp
                have qe : ((i : Int) == (LK : Int)) = false := by rw [beq_eq_false_iff_ne]; omega
                have qe2 : (i == LK) = false := by rw [beq_eq_false_iff_ne]; omega
                have hix : Hid (kix K kk = i) := kix_stop hne.out (.inr hkk) (by rw [HLK.out]; omega)
                have hin : Hid (¬ kix K kk = K.length) := by show ¬ _; rw [hix.out, HLK.out]; omega
                obtain ⟨c, hcc, hTn⟩ := HB2.out
                rw [tlC, if_neg hin.out] at hcc hTn
                rw [tlK, if_neg hin.out, hix.out] at hTn
                rw [hix.out] at hcc
                have hc256 : c ≤ 256 := by
                  obtain ⟨d1, -⟩ := hTl.out.cnt i kk hkk
                  rw [hcc] at d1
                  injection d1 with d1
                  have d2 := List.countP_le_length (p := fun m => decide (nkey [x, y] a n m = kk)) (l := (allW M).take j)
                  rw [List.length_take, HAL.out] at d2
                  have := HT5.out
                  omega
                obtain ⟨gc, oc, rfl, hgc, hccell⟩ := (show Row w10 (.slice ac LK cc) (ints .i64 C) by have := Row.of_owns O10.out.o2; exact this).at (ints_get hcc)
                have e0 := owns_zero O10.out.o2
                subst e0
                rw [Nat.zero_add] at hccell
                have OO2 := O10.out
                rw [← HLC.out] at OO2
                have fr := TwoK.free OO2 i
                have wc := (show IntKind.i64.wrap ((c : Int) + 1) = ((c + 1 : Nat) : Int) by rw [IntWalk.i64_in _ ⟨by omega, by omega⟩]; omega)
                have ON := hid (OO2.set2 i (c + 1))
                have BN := hid (B10.out.setCell (p := ⟨gc, i, none⟩) (OO2.o2.lt gc rfl).1 (.int .i64 ((c + 1 : Nat) : Int)))
                have TN := hid hTn
                rw [List.length_set, HLC.out] at ON
                have TT := hid (show Tal (nkey [x, y] a n) ((allW M).take (j + 1)) K (C.set i (c + 1)) by rw [HT.out]; exact TN.out)
                clear hkk hgk hgc hcc hTn hc256 OO2 hiL hi2 hix hin TN hne HKY HB2 HK3
                go_wp2_with fail
                go_roundw
                case rel => exact ⟨j + 1, K, C.set i (c + 1), by go_num, by have := HJ.out; omega, by have := HKJ.out; have := HLK.out; show _ ≤ _; omega, TT, ON, BN⟩
                case measure => simp [intOf] <;> (have := HJ.out; omega)
              · have q9 : (kk.toList == KY.toList) = false := by rw [beq_eq_false_iff_ne]; exact fun e => hkY (ba_ext (by rw [← Lib.toList_data, ← Lib.toList_data, e]))
                have q8 : (kk.toList != KY.toList) = true := by rw [bne, q9]; rfl
                have hne2 : Hid (∀ (m : Nat) (k : ByteArray), m < i + 1 → K[m]? = some k → k ≠ KY) := fun m k hm hk => by
                  by_cases e : m = i
                  · subst e; rw [HKKi.out] at hk; rw [← Option.some.inj hk]; exact hkY
                  · exact hne.out m k (by omega) hk
                clear hkk hgk hkY hiL hi2 hne
                go_wp2_with fail
                go_roundw
                case rel => exact ⟨i + 1, by go_num, by have := HIL.out; omega, hne2, by simp⟩
                case measure => simp [intOf] <;> (have := HIL.out; omega)
            · obtain rfl : i = LK := by omega
              have qe : ((i : Int) == (i : Int)) = true := by simp
              have qe2 : (i == i) = true := by simp
              have ql : decide ((i : Int) < (i : Int)) = false := by simp
              have hix : Hid (kix K KY = K.length) := kix_stop (by rw [HLK.out]; exact hne.out) (.inl rfl) (Nat.le_refl _)
              obtain ⟨c, hcc, hTn⟩ := HB2.out
              rw [tlC, if_pos hix.out] at hcc hTn
              rw [tlK, if_pos hix.out, hix.out, HLK.out] at hTn
              rw [hix.out, HLK.out, ← HLC.out, List.getElem?_append_right (Nat.le_refl _), Nat.sub_self] at hcc
              obtain rfl : 0 = c := Option.some.inj hcc
              have TT := hid (show Tal (nkey [x, y] a n) ((allW M).take (j + 1)) (K ++ [KY]) ((C ++ [0]).set i (0 + 1)) by rw [HT.out]; exact hTn)
              have T1 := hid (O10.out.below ((Below.refl _ _).alloc (Nat.le_refl _) (.cells #[.string KY] 9)))
              have b1 := hid (B10.out.alloc B10.out.size (.cells #[.string KY] 9))
              have k1 := hid (Blk.new w10 #[.string KY] 9)
              have fz : (0 : Int) ≤ (i : Int) := by omega
              have fl : (i : Int) < ((i + 1 : Nat) : Int) := by omega
              have fl2 : (i : Int) < (i : Int) + 1 := by omega
              have wc1 : IntKind.i64.wrap ((0 : Int) + 1) = 1 := rfl
              clear hcc hTn hiL hi2 hne HKY HB2 HK3
              go_wp2_with (first
                | (at_builtin; refine wpList_append_own_at _ rfl _ _ 24 rfl w5.heap.size 3 i0 (.int .i64 0) 1 8 Tryz.underlying24 hi hz0 hz1 hz2 rfl (by decide) _ i (ints .i64 C) rfl (by have h := (T3.out.below ((Below.refl _ _).alloc (Nat.le_refl _) (.cells #[.int .i64 0] 3))).o2; rw [HLC.out] at h; exact h) ⟨w13.heap.size, 0, none⟩ 1 1 [.int .i64 0] rfl rfl (news_blk (Blk.new w13 #[.int .i64 0] 3)) (by simp [Value.oneCell']) (by have := HKB.out; unfold maxLen; omega) (by have := HKB.out; omega) (by have := b3.out.size; simp; omega) ?_
                   intro v2' w15 hown hgrow _ hat
                   have hown2 : w15.ownsRow w5.heap.size 3 1 v2' (C.length + 1) (ints .i64 C ++ [.int .i64 ((0 : Nat) : Int)]) := by rw [HLC.out]; exact hown
                   have T5 := hid ((T3.out.below ((Below.refl _ _).alloc (Nat.le_refl _) (.cells #[.int .i64 0] 3))).app2 (x := 0) hown2 hgrow hat)
                   have b5 := hid (owned_below (T3.out.below ((Below.refl _ _).alloc (Nat.le_refl _) (.cells #[.int .i64 0] 3))).o2 (b3.out.alloc b3.out.size (.cells #[.int .i64 0] 3)) hgrow)
                   obtain ⟨gq, cq, rfl⟩ := owns_some hown (by omega)
                   have l1 : (C ++ [0]).length = i + 1 := by rw [List.length_append, HLC.out]; rfl
                   have T6 := T5.out
                   have hcell := TwoK.cell2 T6 (show (C ++ [0])[i]? = some 0 by rw [← HLC.out, List.getElem?_append_right (Nat.le_refl _), Nat.sub_self]; rfl)
                   rw [← l1] at T6
                   have fr := TwoK.free T6 i
                   have ON := hid (T6.set2 i 1)
                   have BN := hid (b5.out.setCell (p := ⟨gq, i, none⟩) (T6.o2.lt gq rfl).1 (.int .i64 ((1 : Nat) : Int)))
                   rw [List.length_set, l1] at ON
                   clear hown hown2 hgrow hat T6)
                | (at_builtin; refine wpList_append_own_at _ rfl _ _ 33 rfl w5.heap.size 9 s0 (.string ⟨#[]⟩) 1 16 Tryz.underlying33 hs hs0 hs1 hs2 rfl (by decide) _ i (strs K) rfl (by have h := T1.out.o1; rw [HLK.out] at h; exact h) ⟨w10.heap.size, 0, none⟩ 1 1 [.string KY] rfl rfl (news_blk k1.out) (by simp [Value.oneCell']) (by have := HKB.out; unfold maxLen; omega) (by have := HKB.out; omega) (by exact b1.out.size) ?_
                   intro v1' w13 hown hgrow _ hat
                   have hown2 : w13.ownsRow w5.heap.size 9 1 v1' (K.length + 1) (strs K ++ [.string KY]) := by rw [HLK.out]; exact hown
                   have T3 := hid (T1.out.app1 hown2 hgrow hat)
                   have b3 := hid (owned_below T1.out.o1 b1.out hgrow)
                   obtain ⟨ga, ca, rfl⟩ := owns_some hown (by omega)
                   clear hown hown2 hgrow hat))
              go_roundw
              case rel => exact ⟨j + 1, K ++ [KY], (C ++ [0]).set i (0 + 1), by go_num, by have := HJ.out; omega, by have := HKJ.out; have := HLK.out; show _ ≤ _; rw [List.length_append]; show _ + 1 ≤ _; omega, TT, ON, BN⟩
              case measure => simp [intOf] <;> (have := HJ.out; omega)
      · obtain rfl : j = T := by omega
        have q1 : decide ((j : Int) < (j : Int)) = false := by simp
        have hT : (allW M).take j = allW M := List.take_of_length_le (by rw [HAL.out]; exact Nat.le_refl _)
        rw [hT] at hTl
        obtain ⟨hM1, hM2⟩ := FG.out (by simp) K C hTl.out
        rw [HLK.out] at hM2
        have HH := hid hM1
        have hCle : Hid (∀ (k c : Nat), C[k]? = some c → c ≤ 256) := fun k c hx => by
          obtain ⟨ky, hk⟩ : ∃ ky, K[k]? = some ky := ⟨_, List.getElem?_eq_getElem (by rw [HLK.out, ← HLC.out]; exact (List.getElem?_eq_some_iff.1 hx).1)⟩
          obtain ⟨d1, -⟩ := hTl.out.cnt k ky hk
          rw [hx] at d1
          injection d1 with d1
          have d2 := List.countP_le_length (p := fun m => decide (nkey [x, y] a n m = ky)) (l := allW M)
          rw [HAL.out] at d2
          have := HT5.out
          omega
        have HM2 := hid hM2
        have hkb : LK ≤ 256 := by have := HKJ.out; have := HT5.out; omega
        have HKB := hid hkb
        clear hlt hT hj hM1 hM2 hkb
        obtain ⟨wp, hwp⟩ : ∃ q, q = wr := ⟨_, rfl⟩
        subst hwp
        go_wp2_with fail
        go_loopw [25] (fun s25 wx => ∃ i : Nat, s25 = .int .i64 (i : Nat) ∧ i ≤ LK ∧ Hid (Below wp.heap.size wp wx)) (fun s25 wx => LK - (intOf s25).toNat)
        case atStart => exact ⟨0, rfl, Nat.zero_le _, Below.refl _ _⟩
        case round =>
          obtain ⟨i, rfl, hi4, hBx⟩ := hrel
          by_cases hlt : i < LK
          · obtain ⟨KB, hkk⟩ : ∃ kk, K[i]? = some kk := ⟨_, List.getElem?_eq_getElem (by rw [HLK.out]; exact hlt)⟩
            obtain ⟨v, hv⟩ : ∃ v, C[i]? = some v := ⟨_, List.getElem?_eq_getElem (by rw [HLC.out]; exact hlt)⟩
            obtain ⟨gk, ok, rfl, hgk, hck⟩ := (show Row wp (.slice ak LK ck) (strs K) from Row.of_owns hO.out.o1).at (strs_get hkk)
            obtain ⟨gc, oc, rfl, hgc, hcc⟩ := (show Row wp (.slice ac LK cc) (ints .i64 C) from Row.of_owns hO.out.o2).at (ints_get hv)
            have e0 := owns_zero hO.out.o2
            have e1 := owns_zero hO.out.o1
            subst e0 e1
            rw [Nat.zero_add] at hcc hck
            have hv5 := hCle.out i v hv
            have h9 := HH.out i KB v hkk hv
            have b1 : (0 : Int) ≤ (i : Int) := by omega
            have b2 : (i : Int) < (LK : Int) := by omega
            have wi : IntKind.i64.wrap ((i : Int) + 1) = ((i + 1 : Nat) : Int) := by have := HKB.out; rw [IntWalk.i64_in _ ⟨by omega, by omega⟩]; omega
            have HI := hid hlt
            have PS := fun V => hid (r21_ShareS V v M (by omega) (by have := HM8.out; omega))
            rw [HTT.out] at PS
            obtain ⟨S0, hS0⟩ : ∃ s, shB v j = s := ⟨_, rfl⟩
            rw [hS0] at PS h9
            have PH := fun V u hu => hid (k_HasM V u BL KB S0 hu)
            rw [h9] at PH
            have K2 : Hid (∀ w', Below wp.heap.size wp w' → w'.cell? ⟨gk, i, none⟩ = some (.string KB) ∧ w'.cell? ⟨gc, i, none⟩ = some (.int .i64 (v : Nat))) := fun w' hb => ⟨(hb.cell (p := ⟨gk, i, none⟩) hgk).trans hck, (hb.cell (p := ⟨gc, i, none⟩) hgc).trans hcc⟩
            clear hv hv5 hkk hck hcc hgk hgc h9 hS0 hlt hi4
            go_wp2_with fail
            refine held_plain [0, 1, 2, 3, 4, 5, 6, 7, 8, 9, 10, 11, 12] 4 (fun w' => w'.cell? ⟨gk, i, none⟩ = some (.string KB) ∧ w'.cell? ⟨gc, i, none⟩ = some (.int .i64 (v : Nat))) (by kernel_rfl) (by kernel_rfl) (by kernel_rfl) (by kernel_rfl) (K2.out _ hBx.out.drew) ?_
            iterate 13
              refine ⟨_, rfl, ?_⟩
              apply Exists.intro
              refine ⟨.inl ⟨by rfl, ?_⟩, ?_⟩
              · (intro W' hW'; obtain ⟨q8, q9⟩ := hW'; go_simp; try (with_reducible rfl))
              (dsimp only [Act.put]; try simp only [List.setIfInBounds_toArray, List.set_cons_zero, List.set_cons_succ])
            refine held_one (i := 13) (by kernel_rfl) (by rfl) (by rfl) ?_
            go_wp2_with fail
            refine (PS _).out.mono ?_; rintro e w8 ⟨rfl, hb8⟩
            have x8 := hid (show Below wp.heap.size wp w8 from bnext hBx.out ((Below.refl _ _).drew.trans hb8))
            clear hb8
            go_wp2_with fail
            refine ⟨K2.out _ x8.out, ?_⟩
            refine held_more (is := [14]) (g := 2) (by kernel_rfl) rfl (K2.out _ x8.out) (by kernel_rfl) ?_
            iterate 1
              refine ⟨_, rfl, ?_⟩
              apply Exists.intro
              refine ⟨.inl ⟨by rfl, ?_⟩, ?_⟩
              · (intro W' hW'; obtain ⟨q8, q9⟩ := hW'; go_simp; try (with_reducible rfl))
              (dsimp only [Act.put]; try simp only [List.setIfInBounds_toArray, List.set_cons_zero, List.set_cons_succ])
            refine held_one (i := 15) (by kernel_rfl) (by rfl) (by rfl) ?_
            go_wp2_with fail
            refine (PH _ _ ((U5.out.call hB.out).call x8.out)).out.mono ?_; rintro e w9 ⟨rfl, hb9⟩
            have x9 := hid (bnext x8.out hb9)
            clear hb9
            go_wp2_with fail
            refine ⟨K2.out _ x9.out, ?_⟩
            refine held_more (is := [16]) (g := 0) (by kernel_rfl) rfl (K2.out _ x9.out) (by kernel_rfl) ?_
            iterate 1
              refine ⟨_, rfl, ?_⟩
              apply Exists.intro
              refine ⟨.inl ⟨by rfl, ?_⟩, ?_⟩
              · (intro W' hW'; obtain ⟨q8, q9⟩ := hW'; go_simp; try (with_reducible rfl))
              (dsimp only [Act.put]; try simp only [List.setIfInBounds_toArray, List.set_cons_zero, List.set_cons_succ])
            refine wpAnyH_done (by kernel_rfl) ?_ _
            simp only [Only]
            go_wp2_with fail
            go_roundw
            case rel => exact ⟨i + 1, by go_num, by have := HI.out; omega, x9⟩
            case measure => simp [intOf] <;> (have := HI.out; omega)
          · obtain rfl : i = LK := by omega
            have q1 : decide ((i : Int) < (i : Int)) = false := by simp
            have yq := hid (bnext yr.out hBx.out)
            have UQ := hid ((U5.out.call hB.out).call hBx.out)
            have hdi := HM2.out
            have HDB := hid (show D ≤ 256 by have := HKB.out; omega)
            clear hlt hi4
            go_wp2_with fail
            subst hdi
            go_loopw [26] (fun s26 wx => ∃ q : Nat, s26 = .int .i64 (q : Nat) ∧ 1 ≤ q ∧ q ≤ i + 1 ∧ Hid (Below w.heap.size w wx) ∧ Hid (MRow wx (.slice a4 i k4) BL)) (fun s26 wx => i + 1 - (intOf s26).toNat)
            case atStart => exact ⟨1, rfl, Nat.le_refl _, by omega, yq, UQ⟩
            case round =>
              obtain ⟨q, rfl, hq1, hq2, hB5, hU5⟩ := hrel
              have hdb := HKB.out
              by_cases hlt : q < i
              · obtain ⟨p1, hp1⟩ : ∃ x, BL[q - 1]? = some x := ⟨_, List.getElem?_eq_getElem (by rw [HD.out]; omega)⟩
                obtain ⟨p2, hp2⟩ : ∃ x, BL[q]? = some x := ⟨_, List.getElem?_eq_getElem (by rw [HD.out]; omega)⟩
                have hst := FS.out (q - 1) p1 p2 hp1 (by rw [show q - 1 + 1 = q by omega]; exact hp2)
                obtain ⟨a9, k9, e9, -, -, h9⟩ := hU5.out.ex
                obtain ⟨g1, o1, r1, -, m1, -⟩ := h9 _ _ hp1
                obtain ⟨g2, o2, r2, -, m2, -⟩ := h9 _ _ hp2
                simp only [Value.slice.injEq] at e9
                obtain ⟨rfl, -, rfl⟩ := e9
                rw [r1] at r2
                simp only [Option.some.injEq, Addr.mk.injEq, and_true] at r2
                obtain ⟨rfl, rfl⟩ := r2
                subst r1
                obtain ⟨x1, x2⟩ := p1
                obtain ⟨z1, z2⟩ := p2
                dsimp only [keyL] at m1 m2 hst
                have b1 : (0 : Int) ≤ (q : Int) - 1 := by omega
                have b2 : (q : Int) - 1 < (i : Int) := by omega
                have b5 : (1 : Int) ≤ (q : Int) := by omega
                have b3 : (0 : Int) ≤ (q : Int) := by omega
                have b4 : (q : Int) < (i : Int) := by omega
                have wq1 : IntKind.i64.wrap ((q : Int) - 1) = (q : Int) - 1 := by rw [IntWalk.i64_in _ ⟨by omega, by omega⟩]
                have wi : IntKind.i64.wrap ((q : Int) + 1) = (q : Int) + 1 := by rw [IntWalk.i64_in _ ⟨by omega, by omega⟩]
                have tn : ((q : Int) - 1).toNat = q - 1 := by omega
                rw [Nat.mul_comm 2] at m1 m2
                have hbl := less_lt hst
                have QL := hid hlt
                clear hp1 hp2 h9 hst hdb
                go_wp2_with fail
                refine held_plain [0, 1, 2, 3, 4, 5, 6, 7, 8, 9, 10, 11] 0 (fun w' => w'.cell? ⟨g1, o1 + (q - 1) * 2, none⟩ = some (.string x1) ∧ w'.cell? ⟨g1, o1 + q * 2, none⟩ = some (.string z1)) (by kernel_rfl) (by kernel_rfl) (by kernel_rfl) (by kernel_rfl) ⟨m1, m2⟩ ?_
                iterate 12
                  refine ⟨_, rfl, ?_⟩
                  apply Exists.intro
                  refine ⟨.inl ⟨by rfl, ?_⟩, ?_⟩
                  · (intro W' hW'; obtain ⟨q1, q2⟩ := hW'; go_simp; try (with_reducible rfl))
                  (dsimp only [Act.put]; try simp only [List.setIfInBounds_toArray, List.set_cons_zero, List.set_cons_succ])
                refine wpAnyH_done (by kernel_rfl) ?_ _
                simp only [Only]
                go_wp2_with fail
                go_roundw
                case rel => exact ⟨q + 1, by go_num, by omega, by have := QL.out; omega, hB5.out.drew, hU5.out.call ((Below.refl _ _).drew)⟩
                case measure => simp [intOf] <;> (have := QL.out; omega)
              · have q1 : decide (q < i) = false := by simp; omega
                have q2 : decide ((q : Int) < (i : Int)) = false := by simp; omega
                have q3 : ((i : Int) == (i : Int)) = true := by simp
                clear hlt
                go_wp2_with fail
                go_ret
                exact ⟨rfl, hB5.out⟩
end Go.Proofs.YtgphopkifomffaaGreatDoor
namespace Go.Proofs.YtgphopkifomffaaGreatDoor
open Go.RowKit Go.Shelf
open Go.Lib (decDigits nDigits)
set_option linter.unusedVariables false
set_option linter.unusedSimpArgs false
set_option maxRecDepth 100000 in
set_option maxHeartbeats 4000000 in
theorem w_NoiseCounts (w : World) (x y : Int) (both : Bool) (a : ByteArray) (B : Int) (ha : a.size ≤ 9223372036854775807) (hL : LayB w) :
    Calls Tryz.prog 3 #[.int .i64 x, .int .i64 y, .bool both, .string a, .int .i64 B] w fun e w' => e = .returned (.bool true) ∧ Below w.heap.size w w' := by
  have HLV := hid (w_lives21 w hL)
  by_cases c0 : 20 < a.size
  · have t0 : decide ((20 : Int) < (a.size : Int)) = true := decide_eq_true (by omega)
    clear hL c0
    go_enter Tryz.func3, Tryz.ntmps3
    go_wp2_with fail
    refine HLV.out.mono ?_; rintro e w1 ⟨rfl, hb1⟩
    go_wp2_with fail
    go_ret
    exact ⟨rfl, hb1⟩
  have t0 : decide ((20 : Int) < (a.size : Int)) = false := decide_eq_false (by omega)
  by_cases c1 : B < 0
  · have t1 : decide (B < 0) = true := decide_eq_true c1
    clear hL c0 c1
    go_enter Tryz.func3, Tryz.ntmps3
    go_wp2_with fail
    refine HLV.out.mono ?_; rintro e w1 ⟨rfl, hb1⟩
    go_wp2_with fail
    go_ret
    exact ⟨rfl, hb1⟩
  have t1 : decide (B < 0) = false := decide_eq_false c1
  by_cases c2 : 4 < B
  · have t2 : decide (4 < B) = true := decide_eq_true c2
    clear hL c0 c1 c2
    go_enter Tryz.func3, Tryz.ntmps3
    go_wp2_with fail
    refine HLV.out.mono ?_; rintro e w1 ⟨rfl, hb1⟩
    go_wp2_with fail
    go_ret
    exact ⟨rfl, hb1⟩
  have t2 : decide (4 < B) = false := decide_eq_false c2
  obtain ⟨n, rfl⟩ : ∃ n : Nat, B = (n : Nat) := ⟨B.toNat, by omega⟩
  cases both
  · exact nct_b1 w x y a n (by omega) (by omega) hL
  · exact nct_b2 w x y a n (by omega) (by omega) hL
end Go.Proofs.YtgphopkifomffaaGreatDoor
