/- Walks: law05.PickCounts at good weights. -/
import Derived.Test.YtjgcjjbnnlnilaaGreatDoorKe9
import Derived.Deep.DeepCutAuto
import Derived.Sort.Walk0
import Derived.WalkLawsBesides
import Derived.Deep.AppendLies
import Derived.IntWalk
namespace Go.Proofs.YtjgcjjbnnlnilaaGreatDoor
open Go.RowKit Go.Shelf
open Go.Lib (decDigits nDigits)
set_option linter.unusedVariables false
set_option linter.unusedSimpArgs false

theorem made_ints (n : Nat) : madeCells #[.int .i64 0] n = (ints .i64 (List.replicate n 0)).toArray := made_zeros .i64 n

theorem less_lt {x z : ByteArray} (h : ¬ z.data.toList ≤ x.data.toList) : Op.bytesLess x.toList z.toList = true := by
  rw [bytesLess_eq, Lib.toList_data, Lib.toList_data]
  exact decide_eq_true (List.not_le.1 h)

set_option maxRecDepth 100000 in
set_option maxHeartbeats 8000000 in
theorem pc_ok (w : World) (v : Value) (l : List ByteArray) (m : Nat) (hv : Row w v (strs l)) (hg : ¬ longB l = true) (hm : m ≤ 8) (he : lawE l m = 0) (hL : Lay w) :
    Calls Tryz.prog 4 #[v, .int .i64 (m : Nat)] w fun e w' => e = .returned (.bool true) ∧ Below w.heap.size w w' := by
  have HLV := hid (w_lives w hL)
  have HLG := fun V hV => hid (p_long V v l hV)
  rw [Bool.not_eq_true] at hg
  rw [hg] at HLG
  have HV := hid hv; have HL := hid hL
  obtain ⟨hW, -, -⟩ := lawE_ok he
  obtain ⟨D1, D2, D3⟩ := wsE_ok hW
  have hS := wsE_pos hW
  have hl1 := fun x hx => Nat.le_trans ((longB_no (l := l) (by rw [hg]; simp)).1 x hx) (by omega : 300 ≤ 1000000)
  have P1 := fun V v hV hLV => hid (p_Law V v l m hV hl1 hLV)
  have P2 := fun V v hV hLV => hid (p_Late V v l m hV hl1 hLV)
  have er : lawR l (m : Nat) = sortM (lawP (l.map bN) (2 ^ m) l.length) := by rw [lawR, if_pos he, Int.toNat_natCast]
  have el : lateR l (m : Nat) = shB (2 ^ m - lwS (l.map bN) (2 ^ m) l.length) (2 ^ m) := by rw [lateR, if_pos he, Int.toNat_natCast]
  rw [er, he] at P1
  rw [el, he] at P2
  have P3 := fun (x : List UInt8) (hx : x ∈ allW m) V v hV hLV => hid (p_Draw V v l (tb x) hV hl1 (by rw [tb_size, allW_len hx]; omega) hLV)
  have ed : ∀ x ∈ allW m, drE l (tb x) = 0 ∧ dr3 l (tb x) = pdr (pkF (l.map bN)) 0 1 x := fun x hx => by
    have e1 : drE l (tb x) = 0 := by rw [drE, if_neg (by rw [hW]; simp)]; exact bit_words hx (by omega)
    exact ⟨e1, by rw [dr3, if_pos e1, tb_list]⟩
  have HED := hid ed
  obtain ⟨a, c, rfl, c1, c2, -⟩ := hv.openS
  obtain ⟨ws, hws⟩ : ∃ ws, l.map bN = ws := ⟨_, rfl⟩
  obtain ⟨N, hN⟩ : ∃ N, l.length = N := ⟨_, rfl⟩
  have hlen : ws.length = N := by rw [← hws, List.length_map]; exact hN
  have hN64 : N ≤ 64 := by have := D2.len; rw [List.length_map] at this; omega
  rw [hws] at P1 P2 HED hS
  rw [hN] at P1 P2 HLG HV c1 D3 ⊢
  have HWS := hid hlen; have HPOS := hid hS; have HN := hid hN
  have PA := fun V => hid (r3_All V m (by omega))
  have t1 : decide ((m : Int) < 0) = false := by simp
  have t2 : decide ((8 : Int) < (m : Int)) = false := by simp; omega
  have hp : 2 ^ m ≤ 256 := Nat.le_trans (Nat.pow_le_pow_right (by omega) hm) (by decide)
  obtain ⟨M, hM⟩ : ∃ M, 2 ^ m = M := ⟨_, rfl⟩
  have HM := hid hM
  have HAL := hid (show (allW m).length = M by rw [allW_length, hM])
  rw [hM] at hp P1 P2
  obtain ⟨LT, hLT⟩ : ∃ s, shB (M - lwS ws M N) M = s := ⟨_, rfl⟩
  have HLT := hid hLT
  rw [hLT] at P2
  have hmk := make_ints N (by omega)
  clear hL hv hg er el he hW D1 D2 hl1 ed hws hN hlen hS hM hLT
  go_enter Tryz.func4, Tryz.ntmps4
  go_wp2_with fail
  refine HLV.out.mono ?_; rintro e w1 ⟨rfl, hb1⟩
  have y1 := hid hb1; clear hb1
  go_wp2_with fail
  refine (HLG _ (HV.out.call y1.out)).out.mono ?_; rintro e w2 ⟨rfl, rfl⟩
  go_wp2_with fail
  refine (P1 _ _ (HV.out.call y1.out) (HL.out.call y1.out)).out.mono ?_; rintro e w2 ⟨⟨u, rfl, hu⟩, hb2⟩
  have y2 := hid (bnext y1.out hb2)
  have U2 := hid hu
  obtain ⟨a2, k2, rfl, u1, u2, -⟩ := hu.ex
  obtain ⟨D, hD⟩ : ∃ D, (sortM (lawP ws M N)).length = D := ⟨_, rfl⟩
  rw [hD] at U2 u1 ⊢
  have HD := hid hD
  clear hb2 hu hD
  go_wp2_with fail
  refine (P2 _ _ (HV.out.call y2.out) (HL.out.call y2.out)).out.mono ?_; rintro e w3 ⟨rfl, hb3⟩
  have y3 := hid (bnext y2.out hb3)
  have U3 := hid (U2.out.call hb3)
  clear hb3
  go_wp2_with fail
  refine (PA _).out.mono ?_; rintro e w4 ⟨⟨v4, rfl, hv4⟩, hb4⟩
  have y4 := hid (bnext y3.out hb4)
  have U4 := hid (U3.out.call hb4)
  have V4 := hid hv4
  obtain ⟨a4, k4, rfl, s1, s2, -⟩ := hv4.openS
  rw [List.length_map, HAL.out] at V4 s1 ⊢
  clear hb4 hv4
  go_wp2_with fail
  have X4 := Blk.new w4 (madeCells #[.int .i64 0] N) 3
  have B4 := hid ((Below.refl w4.heap.size w4).alloc (Nat.le_refl _) (.cells (madeCells #[.int .i64 0] N) 3))
  rw [made_ints] at X4 B4 ⊢
  have X5 := hid (show Arr .i64 3 _ w4.heap.size (cntL (pkF ws) N ((allW m).take 0)) by rw [List.take_zero, cntL_nil]; exact X4)
  have U5 := hid (U4.out.call B4.out)
  have V5 := hid (V4.out.call B4.out)
  have y5 := hid (bnext y4.out B4.out)
  obtain ⟨w5, hw5⟩ : ∃ w5, w4.alloc (.cells (ints .i64 (List.replicate N 0)).toArray 3) = w5 := ⟨_, rfl⟩
  obtain ⟨g, hgg⟩ : ∃ g, w4.heap.size = g := ⟨_, rfl⟩
  rw [hw5] at X5 U5 V5 y5 ⊢
  rw [hgg] at X5 ⊢
  have G1 : Hid (w4.heap.size ≤ g) := by rw [← hgg]; exact Nat.le_refl _
  have W5 : Hid (Below g w4 w5) := by rw [← hgg, ← hw5]; exact (Below.refl w4.heap.size w4).alloc (Nat.le_refl _) _
  clear X4 B4 hw5 hgg
  go_loopw [12, 13] (fun s12 s13 wr => ∃ j : Nat, s12 = .int .i64 (noneL (pkF ws) ((allW m).take j) : Nat) ∧ s13 = .int .i64 (j : Nat) ∧ j ≤ M ∧ Hid (Arr .i64 3 wr g (cntL (pkF ws) N ((allW m).take j))) ∧ Hid (Below g w4 wr)) (fun s12 s13 wr => M - (intOf s13).toNat)
  case atStart => exact ⟨0, rfl, rfl, Nat.zero_le _, X5, W5⟩
  case round =>
    obtain ⟨j, rfl, rfl, hj, hX, hB⟩ := hrel
    have hB4 := hid (hB.out.mono G1.out)
    have yr := hid (bnext y4.out hB4.out)
    have hnle := noneL_le (pkF ws) ((allW m).take j)
    rw [List.length_take] at hnle
    by_cases hlt : j < M
    · obtain ⟨x, hx⟩ : ∃ x, (allW m)[j]? = some x := ⟨_, List.getElem?_eq_getElem (by rw [HAL.out]; exact hlt)⟩
      have hxm := List.mem_of_getElem? hx
      obtain ⟨g', o, rfl, hg', hc⟩ := V4.out.at (strs_get (show ((allW m).map tb)[j]? = some (tb x) by rw [List.getElem?_map, hx]; rfl))
      have hc2 := (hB4.out.cell (p := ⟨g', o + j, none⟩) hg').trans hc
      have HT : Hid ((allW m).take (j + 1) = (allW m).take j ++ [x]) := by show (allW m).take (j + 1) = _; rw [List.take_add_one, hx]; rfl
      have PD := P3 x hxm _ _ (HV.out.call yr.out) (HL.out.call yr.out)
      obtain ⟨e1, e2⟩ := HED.out x hxm
      rw [e1, e2] at PD
      obtain ⟨f1, f2⟩ := draw_fit HPOS.out x
      obtain ⟨X, hXX⟩ : ∃ X, tb x = X := ⟨_, rfl⟩
      rw [hXX] at PD hc2
      obtain ⟨n0, hn0⟩ : ∃ n0, noneL (pkF ws) ((allW m).take j) = n0 := ⟨_, rfl⟩
      have HN0 := hid hn0
      rw [hn0] at hnle ⊢
      have b1 : (0 : Int) ≤ (j : Int) := by omega
      have b2 : (j : Int) < (M : Int) := by omega
      have wi : IntKind.i64.wrap ((j : Int) + 1) = ((j + 1 : Nat) : Int) := by rw [IntWalk.i64_in _ ⟨by omega, by omega⟩]; omega
      have wn : IntKind.i64.wrap ((n0 : Int) + 1) = ((n0 + 1 : Nat) : Int) := by rw [IntWalk.i64_in _ ⟨by omega, by omega⟩]; omega
      obtain ⟨r, hr⟩ : ∃ r, pdr (pkF ws) 0 1 x = r := ⟨_, rfl⟩
      rw [hr] at PD f1 f2
      obtain ⟨d, vv, uu⟩ := r
      have HR := hid hr
      simp only [dw3] at PD
      clear hx hxm hc hg' e1 e2 hXX hn0 hr
      cases d
      · have fv : vv = 0 := f2 rfl
        subst fv
        have q5 : decide ((N : Int) ≤ 0) = false := by simp; omega
        have h6 : Hid (cntL (pkF ws) N ((allW m).take (j + 1)) = cntL (pkF ws) N ((allW m).take j)) := by show _ = _; rw [HT.out]; exact cntL_late (by rw [HR.out])
        have h7 : Hid (noneL (pkF ws) ((allW m).take (j + 1)) = n0 + 1) := by show _ = _; rw [HT.out, noneL_late (by rw [HR.out]), HN0.out]
        clear f1 f2
        go_wp2_with fail
        refine PD.out.mono ?_; rintro e w6 ⟨rfl, hb6⟩
        have X6 := hid ((hX.out.call hb6).call ((Below.refl _ _).alloc (Nat.le_refl _) (.cells #[.bool false, .int .i64 0, .int .i64 (uu : Nat)] 29)))
        have B6 := hid (hB.out.trans ((hb6.mono (by have := hX.out.lt; omega)).alloc (by have := hX.out.lt; have := hb6.size; omega) (.cells #[.bool false, .int .i64 0, .int .i64 (uu : Nat)] 29)))
        clear hb6
        go_wp2_with fail
        go_roundw
        case rel => exact ⟨j + 1, by rw [h7.out]; go_num, by go_num, by omega, by rw [h6.out]; exact X6, B6⟩
        case measure => simp [intOf] <;> omega
      · have fv : vv < N := by have := f1 rfl; rw [HWS.out] at this; exact this
        have q5 : decide (N ≤ vv) = false := by simp; omega
        have q6 : decide ((vv : Int) < 0) = false := by simp
        obtain ⟨k0, hk0⟩ : ∃ k0, ((allW m).take j).countP (drawsI (pkF ws) vv) = k0 := ⟨_, rfl⟩
        have hk1 : k0 ≤ 256 := by
          have := List.countP_le_length (p := drawsI (pkF ws) vv) (l := (allW m).take j)
          rw [List.length_take, hk0] at this
          omega
        have hgt := cntL_get (f := pkF ws) (W := (allW m).take j) fv
        rw [hk0] at hgt
        have h6 : Hid (cntL (pkF ws) N ((allW m).take (j + 1)) = (cntL (pkF ws) N ((allW m).take j)).set vv (k0 + 1)) := by show _ = _; rw [HT.out, cntL_done HR.out fv, hk0]
        have h7 : Hid (noneL (pkF ws) ((allW m).take (j + 1)) = n0) := by show _ = _; rw [HT.out, noneL_done (by rw [HR.out]), HN0.out]
        have HGT := hid hgt
        have wk : IntKind.i64.wrap ((k0 : Int) + 1) = ((k0 + 1 : Nat) : Int) := by rw [IntWalk.i64_in _ ⟨by omega, by omega⟩]; omega
        have b3 : (0 : Int) ≤ (vv : Int) := by omega
        have b4 : (vv : Int) < (N : Int) := by omega
        clear f1 f2 hk0 hgt
        go_wp2_with fail
        refine PD.out.mono ?_; rintro e w6 ⟨rfl, hb6⟩
        have X6 := hid ((hX.out.call hb6).call ((Below.refl _ _).alloc (Nat.le_refl _) (.cells #[.bool true, .int .i64 (vv : Nat), .int .i64 (uu : Nat)] 29)))
        have B6 := hid (hB.out.trans ((hb6.mono (by have := hX.out.lt; omega)).alloc (by have := hX.out.lt; have := hb6.size; omega) (.cells #[.bool true, .int .i64 (vv : Nat), .int .i64 (uu : Nat)] 29)))
        have m1 := X6.out.cell HGT.out
        have m2 := X6.out.free vv
        have X7 := hid (X6.out.set vv (k0 + 1))
        have B7 := hid (below_set B6.out (g := g) (i := vv) (Nat.le_refl _) (.int .i64 ((k0 + 1 : Nat) : Int)))
        clear hb6
        go_wp2_with fail
        go_roundw
        case rel => exact ⟨j + 1, by rw [h7.out], by go_num, by omega, by rw [h6.out]; exact X7, B7⟩
        case measure => simp [intOf] <;> omega
    · obtain rfl : j = M := by omega
      have q1 : decide ((j : Int) < (j : Int)) = false := by simp
      have hT : (allW m).take j = allW m := List.take_of_length_le (by rw [HAL.out]; exact Nat.le_refl _)
      rw [hT] at hX hnle ⊢
      have hNL : noneL (pkF ws) (allW m) = j - lwS ws j N := by
        have := noneL_all HPOS.out m
        rw [HM.out, HWS.out] at this
        exact this
      rw [hNL] at hnle ⊢
      obtain ⟨K, hK⟩ : ∃ K, j - lwS ws j N = K := ⟨_, rfl⟩
      have HK := hid hK
      rw [hK] at hnle ⊢
      have HLT2 := hid (show shB K j = LT by rw [← hK]; exact HLT.out)
      clear hlt hT hNL hK
      go_wp2_with fail
      obtain ⟨wq, hwq⟩ : ∃ wq : World, wq = wr := ⟨_, rfl⟩
      subst hwq
      go_loopw [16, 17] (fun s16 s17 wr => ∃ i : Nat, s16 = .int .i64 ((lawL ws j i).length : Nat) ∧ s17 = .int .i64 (i : Nat) ∧ i ≤ N ∧ Hid (Below wq.heap.size wq wr)) (fun s16 s17 wr => N - (intOf s17).toNat)
      case atStart => exact ⟨0, rfl, rfl, Nat.zero_le _, Below.refl _ _⟩
      case round =>
        obtain ⟨i, rfl, rfl, hi, hB2⟩ := hrel
        have zr := hid (bnext yr.out hB2.out)
        have hll := lawL_length ws j i
        by_cases hlt : i < N
        · have hget := cntL_all (ws := ws) HPOS.out m (i := i) (by rw [HWS.out]; exact hlt)
          rw [HWS.out, HM.out] at hget
          have m1 := (hX.out.call hB2.out).cell hget
          have hcb : cnt ws j i ≤ j := Nat.le_trans (cnt_le ws j i HPOS.out) (Nat.sub_le _ _)
          obtain ⟨ls, ls2⟩ := lawL_step ws j i
          have HLH := hid (fun h => lawP_has (ws := ws) (t := j) (N := N) hlt h)
          obtain ⟨k0, hk0⟩ : ∃ k0, cnt ws j i = k0 := ⟨_, rfl⟩
          rw [hk0] at m1 hcb ls ls2 HLH hget
          obtain ⟨F, hF⟩ : ∃ F, (lawL ws j i).length = F := ⟨_, rfl⟩
          have HF := hid hF
          rw [hF] at hll ⊢
          have b1 : (0 : Int) ≤ (i : Int) := by omega
          have b2 : (i : Int) < (N : Int) := by omega
          have wi : IntKind.i64.wrap ((i : Int) + 1) = ((i + 1 : Nat) : Int) := by rw [IntWalk.i64_in _ ⟨by omega, by omega⟩]; omega
          have wf : IntKind.i64.wrap ((F : Int) + 1) = ((F + 1 : Nat) : Int) := by rw [IntWalk.i64_in _ ⟨by omega, by omega⟩]; omega
          by_cases h0 : k0 = 0
          · have q5 : ((k0 : Int) == 0) = true := by simp [h0]
            have h8 := hid (ls h0)
            clear hF hk0 hget ls ls2 h0
            go_wp2_with fail
            go_roundw
            case rel => exact ⟨i + 1, by rw [h8.out, HF.out], by go_num, by omega, hB2⟩
            case measure => simp [intOf] <;> omega
          · have q5 : ((k0 : Int) == 0) = false := by simp; omega
            have h8 := hid (ls2 h0)
            have h9 := hid (HLH.out h0)
            have PI := fun V => hid (r2_Int V i (by omega))
            have PS := fun V => hid (w_share V k0 m (by omega) (by omega))
            rw [HM.out] at PS
            have PH := fun V v hV => hid (k_HasM V v (sortM (lawP ws j N)) (numB i) (shB k0 j) hV)
            rw [h9.out] at PH
            obtain ⟨I0, hI0⟩ : ∃ s, numB i = s := ⟨_, rfl⟩
            obtain ⟨S0, hS0⟩ : ∃ s, shB k0 j = s := ⟨_, rfl⟩
            rw [hI0, hS0] at PH
            rw [hI0] at PI
            rw [hS0] at PS
            have KK : Hid (∀ w', Below wr.heap.size wr w' → w'.cell? ⟨g, i, none⟩ = some (.int .i64 (k0 : Nat))) := fun w' hb => ((hX.out.call hB2.out).call hb).cell hget
            clear hF hk0 ls ls2 h0 hI0 hS0
            go_wp2_with fail
            refine held_plain [0, 1, 3, 4, 5, 6, 7] 5 (fun w' => w'.cell? ⟨g, i, none⟩ = some (.int .i64 (k0 : Nat))) (by kernel_rfl) (by kernel_rfl) (by kernel_rfl) (by kernel_rfl) (KK.out _ (Below.refl _ _).drew) ?_
            iterate 7
              refine ⟨_, rfl, ?_⟩
              apply Exists.intro
              refine ⟨.inl ⟨by rfl, ?_⟩, ?_⟩
              · (intro W' hW'; obtain q9 := hW'; go_simp; try (with_reducible rfl))
              (dsimp only [Act.put]; try simp only [List.setIfInBounds_toArray, List.set_cons_zero, List.set_cons_succ])
            refine held_one (i := 2) (by kernel_rfl) (by rfl) (by rfl) ?_
            go_wp2_with fail
            refine (PI _).out.mono ?_; rintro e w7 ⟨rfl, rfl⟩
            go_wp2_with fail
            refine ⟨KK.out _ (Below.refl _ _).drew, ?_⟩
            refine held_one (i := 8) (by kernel_rfl) (by rfl) (by rfl) ?_
            go_wp2_with fail
            refine (PS _).out.mono ?_; rintro e w8 ⟨rfl, hb8⟩
            have x8 := hid (show Below wr.heap.size wr w8 from (Below.refl _ _).drew.trans hb8)
            clear hb8
            go_wp2_with fail
            refine ⟨KK.out _ x8.out, ?_⟩
            refine held_more (is := [9]) (g := 2) (by kernel_rfl) rfl (KK.out _ x8.out) (by kernel_rfl) ?_
            iterate 1
              refine ⟨_, rfl, ?_⟩
              apply Exists.intro
              refine ⟨.inl ⟨by rfl, ?_⟩, ?_⟩
              · (intro W' hW'; obtain q9 := hW'; go_simp; try (with_reducible rfl))
              (dsimp only [Act.put]; try simp only [List.setIfInBounds_toArray, List.set_cons_zero, List.set_cons_succ])
            refine held_one (i := 10) (by kernel_rfl) (by rfl) (by rfl) ?_
            go_wp2_with fail
            refine (PH _ _ (((U4.out.call hB4.out).call hB2.out).call x8.out)).out.mono ?_; rintro e w9 ⟨rfl, hb9⟩
            have x9 := hid (bnext x8.out hb9)
            clear hb9
            go_wp2_with fail
            refine ⟨KK.out _ x9.out, ?_⟩
            refine held_more (is := [11]) (g := 0) (by kernel_rfl) rfl (KK.out _ x9.out) (by kernel_rfl) ?_
            iterate 1
              refine ⟨_, rfl, ?_⟩
              apply Exists.intro
              refine ⟨.inl ⟨by rfl, ?_⟩, ?_⟩
              · (intro W' hW'; obtain q9 := hW'; go_simp; try (with_reducible rfl))
              (dsimp only [Act.put]; try simp only [List.setIfInBounds_toArray, List.set_cons_zero, List.set_cons_succ])
            refine wpAnyH_done (by kernel_rfl) ?_ _
            simp only [Only]
            go_wp2_with fail
            go_roundw
            case rel => exact ⟨i + 1, by rw [h8.out, List.length_append, HF.out]; rfl, by go_num, by omega, hid (bnext hB2.out x9.out)⟩
            case measure => simp [intOf] <;> omega
        · obtain rfl : i = N := by omega
          have q1 : decide ((i : Int) < (i : Int)) = false := by simp
          have zz := hid (bnext hB4.out hB2.out)
          clear hlt
          obtain ⟨F, hF⟩ : ∃ F, (lawL ws j i).length = F := ⟨_, rfl⟩
          rw [hF] at hll ⊢
          have wf : IntKind.i64.wrap ((F : Int) + 1) = ((F + 1 : Nat) : Int) := by rw [IntWalk.i64_in _ ⟨by omega, by omega⟩]; omega
          have HF := hid hF
          obtain ⟨G, hG⟩ : ∃ G, (lawP ws j i).length = G := ⟨_, rfl⟩
          have HG := hid hG
          clear hF hG
          obtain ⟨tb0, htb⟩ : ∃ b, decide (K > 0) = b := ⟨_, rfl⟩
          go_upto_if 141 with fail
          have HTB := hid htb
          clear htb
          go_cut [16] (fun s16 wc => s16 = .int .i64 (G : Nat) ∧ Hid (Below wq.heap.size wq wc))
          case first =>
            by_cases h0 : K = 0
            · obtain rfl : false = tb0 := by rw [← HTB.out]; simp [h0]
              have e0 : G = F := by rw [← HG.out, ← HF.out, lawP, if_pos (by rw [HK.out]; exact h0)]
              subst e0
              clear h0
              go_wp2_with fail
              go_meet
              case rel => exact ⟨rfl, hB2⟩
            · obtain rfl : true = tb0 := by rw [← HTB.out]; simp; omega
              obtain ⟨k1, k2⟩ := lawP_last (ws := ws) (t := j) (N := i) (by rw [HK.out]; exact h0)
              have e0 : F + 1 = G := by rw [← HG.out, ← HF.out, k2]
              rw [HK.out, HLT2.out] at k1
              have PH := fun V v hV => hid (k_HasM V v (sortM (lawP ws j i)) lateB LT hV)
              rw [k1] at PH
              unfold lateB at PH
              have E0 := hid e0
              clear h0 k1 k2 e0
              go_wp2_with fail
              refine (PH _ _ ((U4.out.call hB4.out).call hB2.out)).out.mono ?_; rintro e w9 ⟨rfl, hb9⟩
              have x9 := hid (bnext hB2.out hb9)
              clear hb9
              go_wp2_with fail
              go_meet
              case rel => exact ⟨by rw [← E0.out]; go_num, x9⟩
          case rest =>
            obtain ⟨rfl, hB3⟩ := hcut
            have hDG : D = G := by rw [← HD.out, ← HG.out, sortM_length]
            subst hDG
            have zc := hid (bnext hB4.out hB3.out)
            have UC := hid (U4.out.call zc.out)
            have yc := hid (bnext y4.out zc.out)
            go_wp2_with fail
            go_loopw [18] (fun s18 wr => ∃ q : Nat, s18 = .int .i64 (q : Nat) ∧ 1 ≤ q ∧ q ≤ D + 1 ∧ Hid (Below wc.heap.size wc wr)) (fun s18 wr => D + 1 - (intOf s18).toNat)
            case atStart => exact ⟨1, rfl, Nat.le_refl _, by omega, Below.refl _ _⟩
            case round =>
              obtain ⟨q, rfl, hq1, hq2, hB5⟩ := hrel
              by_cases hlt : q < D
              · obtain ⟨p1, hp1⟩ : ∃ x, (sortM (lawP ws j i))[q - 1]? = some x := ⟨_, List.getElem?_eq_getElem (by rw [HD.out]; omega)⟩
                obtain ⟨p2, hp2⟩ : ∃ x, (sortM (lawP ws j i))[q]? = some x := ⟨_, List.getElem?_eq_getElem (by rw [HD.out]; omega)⟩
                have hst := lawP_strict (ws := ws) (t := j) (N := i) (i := q - 1) hp1 (by rw [show q - 1 + 1 = q by omega]; exact hp2)
                obtain ⟨a9, k9, e9, -, -, h9⟩ := (UC.out.call hB5.out).ex
                obtain ⟨g1, o1, r1, -, m1, -⟩ := h9 _ _ hp1
                obtain ⟨g2, o2, r2, -, m2, -⟩ := h9 _ _ hp2
                simp only [Value.slice.injEq] at e9
                obtain ⟨rfl, -, rfl⟩ := e9
                rw [r1] at r2
                simp only [Option.some.injEq, Addr.mk.injEq, and_true] at r2
                obtain ⟨rfl, rfl⟩ := r2
                subst r1
                obtain ⟨x1, x2⟩ := p1
                obtain ⟨z1, z2⟩ := p2
                dsimp only [keyL] at m1 m2 hst
                have b1 : (0 : Int) ≤ (q : Int) - 1 := by omega
                have b2 : (q : Int) - 1 < (D : Int) := by omega
                have b5 : (1 : Int) ≤ (q : Int) := by omega
                have b3 : (0 : Int) ≤ (q : Int) := by omega
                have b4 : (q : Int) < (D : Int) := by omega
                have wq1 : IntKind.i64.wrap ((q : Int) - 1) = (q : Int) - 1 := by rw [IntWalk.i64_in _ ⟨by omega, by omega⟩]
                have wi : IntKind.i64.wrap ((q : Int) + 1) = (q : Int) + 1 := by rw [IntWalk.i64_in _ ⟨by omega, by omega⟩]
                have tn : ((q : Int) - 1).toNat = q - 1 := by omega
                rw [Nat.mul_comm 2] at m1 m2
                have hbl := less_lt hst
                clear hp1 hp2 h9 hst
                go_wp2_with fail
                refine held_plain [0, 1, 2, 3, 4, 5, 6, 7, 8, 9, 10, 11] 0 (fun w' => w'.cell? ⟨g1, o1 + (q - 1) * 2, none⟩ = some (.string x1) ∧ w'.cell? ⟨g1, o1 + q * 2, none⟩ = some (.string z1)) (by kernel_rfl) (by kernel_rfl) (by kernel_rfl) (by kernel_rfl) ⟨m1, m2⟩ ?_
                iterate 12
                  refine ⟨_, rfl, ?_⟩
                  apply Exists.intro
                  refine ⟨.inl ⟨by rfl, ?_⟩, ?_⟩
                  · (intro W' hW'; obtain ⟨q1, q2⟩ := hW'; go_simp; try (with_reducible rfl))
                  (dsimp only [Act.put]; try simp only [List.setIfInBounds_toArray, List.set_cons_zero, List.set_cons_succ])
                refine wpAnyH_done (by kernel_rfl) ?_ _
                simp only [Only]
                go_wp2_with fail
                go_roundw
                case rel => exact ⟨q + 1, by go_num, by omega, by omega, hB5.out.drew⟩
                case measure => simp [intOf] <;> omega
              · have q1 : decide (q < D) = false := by simp; omega
                have ye := hid (bnext yc.out hB5.out)
                have PS := fun V => hid (w_share V K m (by omega) (by omega))
                rw [HM.out, HLT2.out] at PS
                clear hlt
                go_wp2_with fail
                refine (PS _).out.mono ?_; rintro e w9 ⟨rfl, hb9⟩
                have yf := hid (bnext ye.out hb9)
                clear hb9
                go_wp2_with fail
                go_ret
                exact ⟨rfl, yf.out⟩
end Go.Proofs.YtjgcjjbnnlnilaaGreatDoor

/- Walks: ref04.Add: an insertion. -/
namespace Go.Proofs.YtjgcjjbnnlnilaaGreatDoor
open Go.RowKit Go.Shelf
open Go.Lib (decDigits nDigits)
set_option linter.unusedVariables false
set_option linter.unusedSimpArgs false

def ltB (x z : ByteArray) : Bool := Op.bytesLess x.toList z.toList

/-- A mass is put ahead of the first whose key is not below. -/
def addL (L : List (ByteArray × ByteArray)) (key p : ByteArray) : List (ByteArray × ByteArray) :=
  if p = ⟨#[48]⟩ then L else L.takeWhile (fun x => ltB x.1 key) ++ (key, p) :: L.dropWhile (fun x => ltB x.1 key)

theorem take_cut {L : List (ByteArray × ByteArray)} {f : ByteArray × ByteArray → Bool} : ∀ {k : Nat}, (∀ j x, j < k → L[j]? = some x → f x = true) → (∀ x, L[k]? = some x → f x = false) → L.takeWhile f = L.take k ∧ L.dropWhile f = L.drop k := by
  induction L with
  | nil => intro k _ _; simp
  | cons a r ih =>
    intro k h1 h2
    cases k with
    | zero =>
      have := h2 a (by simp)
      simp [this]
    | succ k =>
      have ha := h1 0 a (by omega) (by simp)
      obtain ⟨e1, e2⟩ := ih (k := k) (fun j x hj hx => h1 (j + 1) x (by omega) (by simpa using hx)) (fun x hx => h2 x (by simpa using hx))
      simp [ha, e1, e2]

/-- An append of a slice that came in, nil too, at a step of a region that draws its order. -/
theorem step_append_any {P : Program} (w : World) {ops : Array Oper} {o : Oper} {a : Act} {K : Act → World → Prop} {Q : Exit → Act → World → Prop} {E : Prop} (hgd : o.guard = none) (s x : Operand) (t : TypeId)
    (ho : o.op = .call { callee := .builtin .append, args := #[s, x], argTypes := #[t, t] })
    (base : Nat) (e : TypeId) (i : TypeInfo) (z : Value) (size bytes : Nat) (ht : P.underlying t = some (.slice e)) (hi : P.info? e = some i) (hz : i.zero = some z)
    (hsize : i.size = size) (hby : i.bytes = bytes) (hzs : z.cells.size = size) (hsz : 0 < size)
    (v : Value) (n : Nat) (xs : List Value) (hs : a.eval s = v) (hown : w.ownsRow base e size v n xs) (hv : v ≠ .slice none 0 0)
    (ao : Option Addr) (m c : Nat) (news : List Value) (hx : a.eval x = .slice ao m c) (hl : news.length = m * size) (hnews : ∀ j u, news[j]? = some u → ∃ ad, ao = some ad ∧ w.cell? (ad.add j) = some u) (h1 : ∀ u ∈ news, u.oneCell' = true)
    (h63 : n + m ≤ maxLen) (hbytes : (n + m) * bytes ≤ 140737488355328) (hbase : base ≤ w.heap.size)
    (h : ∀ v' w', w'.ownsRow base e size v' (n + m) (xs ++ news) → w.grownBy w' v.ownBlock → v' ≠ .slice none 0 0 → K (a.put o.dst v') w') :
    if Region.wanted o (yielded ops a.tmps) = true then Oper.wp P o a w K Q else E := by
  have hw : Region.wanted o (yielded ops a.tmps) = true := by simp [Region.wanted, hgd]
  rw [if_pos hw]
  have key : ∃ v' w', (Builtin.append_ #[t, t] o.type #[v, .slice ao m c]).run P w = .ok v' w' ∧ w'.ownsRow base e size v' (n + m) (xs ++ news) ∧ w.grownBy w' v.ownBlock ∧ v' ≠ .slice none 0 0 := by
    cases ao with
    | some ad =>
      obtain ⟨v', w', hr, k1, k2, k3, -⟩ := run_append_own_at (P := P) w base t o.type e i z size bytes ht hi hz hsize hby hzs hsz v n xs hown ad m c news hl (fun j u hu => by obtain ⟨ad', e', hc⟩ := hnews j u hu; cases e'; exact hc) h1 h63 hbytes hbase
      exact ⟨v', w', hr, k1, k2, fun e => hv (k3.1 e).1⟩
    | none =>
      have hn : news = [] := by
        cases news with
        | nil => rfl
        | cons u r => obtain ⟨ad, e, _⟩ := hnews 0 u rfl; cases e
      subst hn
      have hm : m = 0 := by
        rcases Nat.eq_zero_or_pos m with h | h
        · exact h
        · have := Nat.mul_pos h hsz; simp at hl; omega
      subst hm
      refine ⟨v, w, ?_, by simpa using hown, ⟨rfl, rfl, rfl, Nat.le_refl _, fun _ _ _ => rfl⟩, hv⟩
      rcases hown.2 with ⟨e, _⟩ | ⟨g, cap, cur, rfl, hb, hg, h1', h2', h3', h4'⟩
      · exact absurd e hv
      · simp [Builtin.append_, run_underlying ht, sizeOf, typeInfo, hi, Builtin.lenOf, Builtin.firstCells, loadCells, loadCellsFrom, storeCells, h1']
  obtain ⟨v', w', hr, h2, h3, h4⟩ := key
  unfold Oper.wp execOp
  simp only [ho, resolve, invoke, builtin, Sem.run_bind, Sem.run_pure, Result.andThen_ok, List.map_toArray, List.map_cons, List.map_nil, hs, hx, hr]
  exact h v' w' h2 h3 h4

theorem massC_one (M : List (ByteArray × ByteArray)) : ∀ u ∈ massC M, u.oneCell' = true := by
  intro u hu
  obtain ⟨x, _, hx⟩ := List.mem_flatMap.1 hu
  simp at hx
  rcases hx with rfl | rfl <;> rfl
theorem massC_append_one (M : List (ByteArray × ByteArray)) (x y : ByteArray) : massC (M ++ [(x, y)]) = massC M ++ [.string x, .string y] := massC_append _ _
theorem massC_cells {W : World} {g : Nat} : ∀ {M : List (ByteArray × ByteArray)} {O : Nat}, (∀ (i : Nat) (y : ByteArray × ByteArray), M[i]? = some y → W.cell? ⟨g, O + 2 * i, none⟩ = some (.string y.1) ∧ W.cell? ⟨g, O + 2 * i + 1, none⟩ = some (.string y.2)) → ∀ (j : Nat) (u : Value), (massC M)[j]? = some u → W.cell? ⟨g, O + j, none⟩ = some u := by
  intro M
  induction M with
  | nil => intro O _ j u hu; simp [massC] at hu
  | cons q r ih =>
    intro O h j u hu
    have e : massC (q :: r) = .string q.1 :: .string q.2 :: massC r := rfl
    rw [e] at hu
    match j, hu with
    | 0, hu => simp at hu; subst hu; exact (h 0 q rfl).1
    | 1, hu => simp at hu; subst hu; exact (h 0 q rfl).2
    | j + 2, hu =>
      have := ih (O := O + 2) (fun i y hy => by
        have := h (i + 1) y (by simpa using hy)
        rw [show O + 2 * (i + 1) = O + 2 + 2 * i by omega] at this
        exact this) j u (by simpa using hu)
      rw [show O + (j + 2) = O + 2 + j by omega]
      exact this
theorem mass_at {W : World} {B : Nat} {x y : ByteArray} {t : TypeId} {fr : Nat × Nat} (h : W.heap[B]? = some (.cells #[.string x, .string y] t fr)) : ∀ (j : Nat) (u : Value), [Value.string x, Value.string y][j]? = some u → ∃ ad, some (⟨B, 0, none⟩ : Addr) = some ad ∧ W.cell? (ad.add j) = some u := fun j u hu => ⟨_, rfl, World.news_of_block h j u hu⟩
theorem own_below2 {w0 W w3 : World} {t : TypeId} {z : Nat} {v : Value} {m : Nat} {vs : List Value} (h : W.ownsRow w0.heap.size t z v m vs) (h0 : Below w0.heap.size w0 W) (hg : W.grownBy w3 v.ownBlock) : Below w0.heap.size w0 w3 := by
  refine h0.trans ⟨hg.os, hg.tape, hg.output, hg.size, fun j hj => hg.block j (Nat.lt_of_lt_of_le hj h0.size) fun e => ?_⟩
  have := (h.lt j e.symm).1
  omega
theorem own_zero_at {w X : World} {B : Nat} {t : TypeId} (hB : X.heap.size = B) (h : w.heap.size ≤ X.heap.size) : (X.alloc (.cells #[] t)).ownsRow w.heap.size t 2 (.slice (some ⟨B, 0, none⟩) 0 0) 0 [] := by subst hB; exact World.ownsRow_made _ _ 0 h (by unfold maxLen; omega) rfl

set_option maxRecDepth 100000 in
set_option maxHeartbeats 2000000 in
theorem r4_Add (w : World) (v : Value) (L : List (ByteArray × ByteArray)) (key p : ByteArray) (hv : MRow w v L) (hn : L.length ≤ 1000) :
    Calls Tryz.prog 88 #[v, .string key, .string p] w fun e w' => (∃ u, e = .returned u ∧ MRow w' u (addL L key p)) ∧ Below w.heap.size w w' := by
  obtain ⟨i0, hi, hz0, hz1, hz2⟩ := info_parts info_mass
  have HV := hid hv
  obtain ⟨a, c, rfl, h1, h2, h3⟩ := hv.ex
  obtain ⟨n, hN⟩ : ∃ n, L.length = n := ⟨_, rfl⟩
  rw [hN] at h1 HV hn ⊢
  have HN := hid hN; have H3 := hid h3
  clear hv h3 hN
  by_cases hp : p = ⟨#[48]⟩
  · have e : Hid (addL L key p = L) := by show addL L key p = L; rw [addL, if_pos hp]
    rw [e.out]
    have q0 : (p.toList == [48]) = true := by subst hp; rw [Lib.toList_data]; rfl
    clear hp e
    go_enter Tryz.func88, Tryz.ntmps88
    go_wp2_with fail
    go_ret
    exact ⟨⟨_, rfl, HV.out⟩, Below.refl _ _⟩
  · have E : Hid (addL L key p = L.takeWhile (fun x => ltB x.1 key) ++ (key, p) :: L.dropWhile (fun x => ltB x.1 key)) := by show addL L key p = _; rw [addL, if_neg hp]
    have q0 : (p.toList == [48]) = false := ne_lit hp
    rw [E.out]
    clear hp E
    go_enter Tryz.func88, Tryz.ntmps88
    go_wp2_with fail
    go_loop [7] (fun ii => ∃ k : Nat, ii = .int .i64 k ∧ k ≤ n ∧ Hid (∀ j x, j < k → L[j]? = some x → ltB x.1 key = true)) (fun ii => n - (intOf ii).toNat)
    case atStart => exact ⟨0, rfl, Nat.zero_le _, fun j x hj => absurd hj (by omega)⟩
    case round =>
      obtain ⟨k, rfl, hk, hI⟩ := hrel
      have c1 : (0 : Int) ≤ (k : Int) := by omega
      by_cases hlt : k < n
      · obtain ⟨x, hx⟩ : ∃ x, L[k]? = some x := ⟨_, List.getElem?_eq_getElem (by rw [HN.out]; exact hlt)⟩
        obtain ⟨g, o, rfl, hg, hc, -⟩ := H3.out k x hx
        have HX := hid hx
        rw [Nat.mul_comm 2 k] at hc
        have c2 : (k : Int) < (n : Int) := by omega
        have wi : IntKind.i64.wrap ((k : Int) + 1) = ((k + 1 : Nat) : Int) := by rw [IntWalk.i64_in _ ⟨by omega, by omega⟩]; omega
        obtain ⟨lb, hlb⟩ : ∃ b, Op.bytesLess x.1.toList key.toList = b := ⟨_, rfl⟩
        have HLB := hid (show ltB x.1 key = lb from hlb)
        clear hx
        have SRC1 : Hid (∀ W, Below w.heap.size w W → ∀ j u, (massC (L.take k))[j]? = some u → ∃ ad, some (⟨g, o, none⟩ : Addr) = some ad ∧ W.cell? (ad.add j) = some u) := fun W hW j u hu => by
          refine ⟨_, rfl, ?_⟩
          rw [Addr.add_lit]
          refine massC_cells (fun i y hy => ?_) j u hu
          rw [List.getElem?_take] at hy
          split at hy
          · obtain ⟨g', o', e, k0, k1, k2⟩ := H3.out i y hy
            simp only [Option.some.injEq, Addr.mk.injEq] at e
            obtain ⟨rfl, rfl, -⟩ := e
            exact ⟨(hW.cell (p := ⟨g, _, none⟩) hg).trans k1, (hW.cell (p := ⟨g, _, none⟩) hg).trans k2⟩
          · cases hy
        have SRC2 : Hid (∀ W, Below w.heap.size w W → ∀ j u, (massC (L.drop k))[j]? = some u → ∃ ad, some (⟨g, o + k * 2, none⟩ : Addr) = some ad ∧ W.cell? (ad.add j) = some u) := fun W hW j u hu => by
          refine ⟨_, rfl, ?_⟩
          rw [Addr.add_lit]
          refine massC_cells (fun i y hy => ?_) j u hu
          rw [List.getElem?_drop] at hy
          obtain ⟨g', o', e, k0, k1, k2⟩ := H3.out _ y hy
          simp only [Option.some.injEq, Addr.mk.injEq] at e
          obtain ⟨rfl, rfl, -⟩ := e
          rw [show o + 2 * (k + i) = o + k * 2 + 2 * i by omega] at k1 k2
          exact ⟨(hW.cell (p := ⟨g, _, none⟩) hg).trans k1, (hW.cell (p := ⟨g, _, none⟩) hg).trans k2⟩
        have SL1 : Hid ((massC (L.take k)).length = k * 2) := by show _ = _; rw [massC_length, List.length_take_of_le (by rw [HN.out]; omega)]
        have SL2 : Hid ((massC (L.drop k)).length = (n - k) * 2) := by show _ = _; rw [massC_length, List.length_drop, HN.out]
        have MZ2 : Hid (((w.alloc (.cells #[] 43)).alloc (.cells #[.string key, .string p] 43)).drew.heap[w.heap.size + 1]? = some (.cells #[.string key, .string p] 43 (0, 0))) := by
          have := heap_alloc_new (w.alloc (.cells #[] 43)) (.cells #[.string key, .string p] 43)
          rw [show (w.alloc (.cells #[] 43)).heap.size = w.heap.size + 1 from by simp] at this
          exact this
        have MZ3 : Hid (((w.alloc (.cells #[.string key, .string p] 43)).alloc (.cells #[] 43)).drew.heap[w.heap.size]? = some (.cells #[.string key, .string p] 43 (0, 0))) := (heap_alloc_old (w.alloc (.cells #[.string key, .string p] 43)) (.cells #[] 43) (by simp)).trans (heap_alloc_new w (.cells #[.string key, .string p] 43))
        have d1 : (k : Int) ≤ (c : Int) := by omega
        have d2 : (k : Int) ≤ (n : Int) := by omega
        have d3 : (n : Int) ≤ (c : Int) := by omega
        have d4 : ¬ c = k := by omega
        cases lb
        · have TK := hid (take_cut (L := L) (f := fun x => ltB x.1 key) (k := k) hI.out (fun y hy => by have := HX.out; rw [hy] at this; cases this; exact HLB.out))
          go_wp2_with fail
          go_region_held3 (fun _ => True) (first | trivial)
            (first
              | (refine step_append_any _ rfl _ _ _ rfl w.heap.size 43 i0 _ 2 32 Tryz.underlying38 hi hz0 hz1 hz2 rfl (by decide) (.slice (some ⟨_, 0, none⟩) 0 0) 0 [] rfl (by first | exact (own_zero_at rfl (Nat.le_refl _)).drew | exact ((own_zero_at rfl (Nat.le_refl _)).alloc _).drew | exact (own_zero_at (by simp) (by simp)).drew) (by intro e; cases e) (some ⟨g, o, none⟩) k c (massC (L.take k)) rfl SL1.out (SRC1.out _ (by first | exact ((Below.refl _ _).alloc (Nat.le_refl _) _).drew | exact (((Below.refl _ _).alloc (Nat.le_refl _) _).alloc (by simp) _).drew)) (massC_one _) (by unfold maxLen; omega) (by omega) (by simp <;> omega) ?_; intro v1 w1 hown1 hg1 hne1; have B1 : Hid (Below w.heap.size w w1) := own_below2 (w0 := w) (w3 := w1) (by first | exact (own_zero_at rfl (Nat.le_refl _)).drew | exact ((own_zero_at rfl (Nat.le_refl _)).alloc _).drew | exact (own_zero_at (by simp) (by simp)).drew) (by first | exact ((Below.refl _ _).alloc (Nat.le_refl _) _).drew | exact (((Below.refl _ _).alloc (Nat.le_refl _) _).alloc (by simp) _).drew) hg1; have O1 := hid (show w1.ownsRow w.heap.size 43 2 v1 k (massC (L.take k)) from by rw [Nat.zero_add] at hown1; exact hown1); have NE1 := hid hne1; have HG1 := hid hg1; clear hown1 hg1 hne1)
              | (refine step_append_any _ rfl _ _ _ rfl w.heap.size 43 i0 _ 2 32 Tryz.underlying38 hi hz0 hz1 hz2 rfl (by decide) v1 k _ rfl (by first | exact O1.out | exact O1.out.alloc _) NE1.out (some ⟨_, 0, none⟩) 1 1 [.string key, .string p] rfl rfl (mass_at (by first | exact heap_alloc_new _ _ | exact (HG1.out.block (w.heap.size + 1) (by simp <;> omega) (by simp [Value.ownBlock])).trans MZ2.out | exact (HG1.out.block w.heap.size (by simp <;> omega) (by simp [Value.ownBlock])).trans MZ3.out)) (by simp [Value.oneCell']) (by unfold maxLen; omega) (by omega) (by first | exact B1.out.size | exact (B1.out.alloc B1.out.size _).size) ?_; intro v2 w2 hown2 hg2 hne2; have B2 : Hid (Below w.heap.size w w2) := own_below2 (w0 := w) (w3 := w2) (by first | exact O1.out | exact O1.out.alloc _) (by first | exact B1.out | exact B1.out.alloc B1.out.size _) hg2; have O2 := hid hown2; have NE2 := hid hne2; clear hown2 hg2 hne2)
              | (refine step_append_any _ rfl _ _ _ rfl w.heap.size 43 i0 _ 2 32 Tryz.underlying38 hi hz0 hz1 hz2 rfl (by decide) v2 (k + 1) _ rfl O2.out NE2.out (some ⟨g, o + k * 2, none⟩) (n - k) (c - k) (massC (L.drop k)) rfl SL2.out (SRC2.out _ B2.out) (massC_one _) (by unfold maxLen; omega) (by omega) (by exact B2.out.size) ?_; intro v3 w3 hown3 hg3 hne3; have O3 := hid hown3; have B3 : Hid (Below w.heap.size w w3) := own_below2 (w0 := w) (w3 := w3) O2.out B2.out hg3; clear hown3 hg3 hne3))
          all_goals
            have OF := O3.out
            rw [← massC_append_one, ← massC_append] at OF
            go_wp2_with fail
            all_goals
              go_ret
              refine ⟨⟨_, rfl, ?_⟩, B3.out⟩
              rw [TK.out.1, TK.out.2]
              have := MRow.of_owns OF
              rwa [List.append_assoc] at this

        · go_wp2_with fail
          go_round
          case rel =>
            refine ⟨k + 1, by go_num, by omega, fun j y hj hy => ?_⟩
            rcases Nat.lt_or_ge j k with h | h
            · exact hI.out j y h hy
            · obtain rfl : j = k := by omega
              have := HX.out; rw [hy] at this; cases this; exact HLB.out
          case measure => simp [intOf] <;> omega
      · obtain rfl : k = n := by omega
        have SRC1 : Hid (∀ W, Below w.heap.size w W → ∀ j u, (massC (L.take k))[j]? = some u → ∃ ad, a = some ad ∧ W.cell? (ad.add j) = some u) := fun W hW j u hu => by
          obtain ⟨x0, hx0⟩ : ∃ x0, L[0]? = some x0 := by
            cases hL : L with
            | nil => rw [hL] at hu; simp [massC] at hu
            | cons x r => exact ⟨x, rfl⟩
          obtain ⟨g, o, rfl, hg, -, -⟩ := H3.out 0 x0 hx0
          refine ⟨_, rfl, ?_⟩
          rw [Addr.add_lit]
          refine massC_cells (fun i y hy => ?_) j u hu
          rw [List.getElem?_take] at hy
          split at hy
          · obtain ⟨g', o', e, k0, k1, k2⟩ := H3.out i y hy
            simp only [Option.some.injEq, Addr.mk.injEq] at e
            obtain ⟨rfl, rfl, -⟩ := e
            exact ⟨(hW.cell (p := ⟨g, _, none⟩) hg).trans k1, (hW.cell (p := ⟨g, _, none⟩) hg).trans k2⟩
          · cases hy
        have DN : Hid (L.drop k = []) := List.drop_eq_nil_of_le (by rw [HN.out]; exact Nat.le_refl _)
        have SRC2 : Hid (∀ (ao : Option Addr) W, Below w.heap.size w W → ∀ j u, (massC (L.drop k))[j]? = some u → ∃ ad, ao = some ad ∧ W.cell? (ad.add j) = some u) := fun ao W hW j u hu => by
          rw [DN.out] at hu; simp [massC] at hu
        have SL1 : Hid ((massC (L.take k)).length = k * 2) := by show _ = _; rw [massC_length, List.length_take_of_le (by rw [HN.out]; exact Nat.le_refl _)]
        have SL2 : Hid ((massC (L.drop k)).length = 0 * 2) := by show _ = _; rw [DN.out]; rfl
        have MZ2 : Hid (((w.alloc (.cells #[] 43)).alloc (.cells #[.string key, .string p] 43)).drew.heap[w.heap.size + 1]? = some (.cells #[.string key, .string p] 43 (0, 0))) := by
          have := heap_alloc_new (w.alloc (.cells #[] 43)) (.cells #[.string key, .string p] 43)
          rw [show (w.alloc (.cells #[] 43)).heap.size = w.heap.size + 1 from by simp] at this
          exact this
        have MZ3 : Hid (((w.alloc (.cells #[.string key, .string p] 43)).alloc (.cells #[] 43)).drew.heap[w.heap.size]? = some (.cells #[.string key, .string p] 43 (0, 0))) := (heap_alloc_old (w.alloc (.cells #[.string key, .string p] 43)) (.cells #[] 43) (by simp)).trans (heap_alloc_new w (.cells #[.string key, .string p] 43))
        have d1 : (k : Int) ≤ (c : Int) := by omega
        have d2 : (k : Int) ≤ (k : Int) := by omega
        have TK := hid (take_cut (L := L) (f := fun x => ltB x.1 key) (k := k) hI.out (fun y hy => by rw [List.getElem?_eq_none (by rw [HN.out]; exact Nat.le_refl _)] at hy; cases hy))
        cases a
        · go_wp2_with fail
          go_region_held3 (fun _ => True) (first | trivial)
            (first
              | (refine step_append_any _ rfl _ _ _ rfl w.heap.size 43 i0 _ 2 32 Tryz.underlying38 hi hz0 hz1 hz2 rfl (by decide) (.slice (some ⟨_, 0, none⟩) 0 0) 0 [] rfl (by first | exact (own_zero_at rfl (Nat.le_refl _)).drew | exact ((own_zero_at rfl (Nat.le_refl _)).alloc _).drew | exact (own_zero_at (by simp) (by simp)).drew) (by intro e; cases e) _ k c (massC (L.take k)) rfl SL1.out (SRC1.out _ (by first | exact ((Below.refl _ _).alloc (Nat.le_refl _) _).drew | exact (((Below.refl _ _).alloc (Nat.le_refl _) _).alloc (by simp) _).drew)) (massC_one _) (by unfold maxLen; omega) (by omega) (by simp <;> omega) ?_; intro v1 w1 hown1 hg1 hne1; have B1 : Hid (Below w.heap.size w w1) := own_below2 (w0 := w) (w3 := w1) (by first | exact (own_zero_at rfl (Nat.le_refl _)).drew | exact ((own_zero_at rfl (Nat.le_refl _)).alloc _).drew | exact (own_zero_at (by simp) (by simp)).drew) (by first | exact ((Below.refl _ _).alloc (Nat.le_refl _) _).drew | exact (((Below.refl _ _).alloc (Nat.le_refl _) _).alloc (by simp) _).drew) hg1; have O1 := hid (show w1.ownsRow w.heap.size 43 2 v1 k (massC (L.take k)) from by rw [Nat.zero_add] at hown1; exact hown1); have NE1 := hid hne1; have HG1 := hid hg1; clear hown1 hg1 hne1)
              | (refine step_append_any _ rfl _ _ _ rfl w.heap.size 43 i0 _ 2 32 Tryz.underlying38 hi hz0 hz1 hz2 rfl (by decide) v1 k _ rfl (by first | exact O1.out | exact O1.out.alloc _) NE1.out (some ⟨_, 0, none⟩) 1 1 [.string key, .string p] rfl rfl (mass_at (by first | exact heap_alloc_new _ _ | exact (HG1.out.block (w.heap.size + 1) (by simp <;> omega) (by simp [Value.ownBlock])).trans MZ2.out | exact (HG1.out.block w.heap.size (by simp <;> omega) (by simp [Value.ownBlock])).trans MZ3.out)) (by simp [Value.oneCell']) (by unfold maxLen; omega) (by omega) (by first | exact B1.out.size | exact (B1.out.alloc B1.out.size _).size) ?_; intro v2 w2 hown2 hg2 hne2; have B2 : Hid (Below w.heap.size w w2) := own_below2 (w0 := w) (w3 := w2) (by first | exact O1.out | exact O1.out.alloc _) (by first | exact B1.out | exact B1.out.alloc B1.out.size _) hg2; have O2 := hid hown2; have NE2 := hid hne2; clear hown2 hg2 hne2)
              | (refine step_append_any _ rfl _ _ _ rfl w.heap.size 43 i0 _ 2 32 Tryz.underlying38 hi hz0 hz1 hz2 rfl (by decide) v2 (k + 1) _ rfl O2.out NE2.out _ 0 _ (massC (L.drop k)) rfl SL2.out (SRC2.out _ _ B2.out) (massC_one _) (by unfold maxLen; omega) (by omega) (by exact B2.out.size) ?_; intro v3 w3 hown3 hg3 hne3; have O3 := hid hown3; have B3 : Hid (Below w.heap.size w w3) := own_below2 (w0 := w) (w3 := w3) O2.out B2.out hg3; clear hown3 hg3 hne3))
          all_goals
            have OF := O3.out
            rw [← massC_append_one, ← massC_append] at OF
            go_wp2_with fail
            all_goals
              go_ret
              refine ⟨⟨_, rfl, ?_⟩, B3.out⟩
              rw [TK.out.1, TK.out.2]
              have := MRow.of_owns OF
              rwa [List.append_assoc] at this

        · go_wp2_with fail
          go_region_held3 (fun _ => True) (first | trivial)
            (first
              | (refine step_append_any _ rfl _ _ _ rfl w.heap.size 43 i0 _ 2 32 Tryz.underlying38 hi hz0 hz1 hz2 rfl (by decide) (.slice (some ⟨_, 0, none⟩) 0 0) 0 [] rfl (by first | exact (own_zero_at rfl (Nat.le_refl _)).drew | exact ((own_zero_at rfl (Nat.le_refl _)).alloc _).drew | exact (own_zero_at (by simp) (by simp)).drew) (by intro e; cases e) _ k c (massC (L.take k)) rfl SL1.out (SRC1.out _ (by first | exact ((Below.refl _ _).alloc (Nat.le_refl _) _).drew | exact (((Below.refl _ _).alloc (Nat.le_refl _) _).alloc (by simp) _).drew)) (massC_one _) (by unfold maxLen; omega) (by omega) (by simp <;> omega) ?_; intro v1 w1 hown1 hg1 hne1; have B1 : Hid (Below w.heap.size w w1) := own_below2 (w0 := w) (w3 := w1) (by first | exact (own_zero_at rfl (Nat.le_refl _)).drew | exact ((own_zero_at rfl (Nat.le_refl _)).alloc _).drew | exact (own_zero_at (by simp) (by simp)).drew) (by first | exact ((Below.refl _ _).alloc (Nat.le_refl _) _).drew | exact (((Below.refl _ _).alloc (Nat.le_refl _) _).alloc (by simp) _).drew) hg1; have O1 := hid (show w1.ownsRow w.heap.size 43 2 v1 k (massC (L.take k)) from by rw [Nat.zero_add] at hown1; exact hown1); have NE1 := hid hne1; have HG1 := hid hg1; clear hown1 hg1 hne1)
              | (refine step_append_any _ rfl _ _ _ rfl w.heap.size 43 i0 _ 2 32 Tryz.underlying38 hi hz0 hz1 hz2 rfl (by decide) v1 k _ rfl (by first | exact O1.out | exact O1.out.alloc _) NE1.out (some ⟨_, 0, none⟩) 1 1 [.string key, .string p] rfl rfl (mass_at (by first | exact heap_alloc_new _ _ | exact (HG1.out.block (w.heap.size + 1) (by simp <;> omega) (by simp [Value.ownBlock])).trans MZ2.out | exact (HG1.out.block w.heap.size (by simp <;> omega) (by simp [Value.ownBlock])).trans MZ3.out)) (by simp [Value.oneCell']) (by unfold maxLen; omega) (by omega) (by first | exact B1.out.size | exact (B1.out.alloc B1.out.size _).size) ?_; intro v2 w2 hown2 hg2 hne2; have B2 : Hid (Below w.heap.size w w2) := own_below2 (w0 := w) (w3 := w2) (by first | exact O1.out | exact O1.out.alloc _) (by first | exact B1.out | exact B1.out.alloc B1.out.size _) hg2; have O2 := hid hown2; have NE2 := hid hne2; clear hown2 hg2 hne2)
              | (refine step_append_any _ rfl _ _ _ rfl w.heap.size 43 i0 _ 2 32 Tryz.underlying38 hi hz0 hz1 hz2 rfl (by decide) v2 (k + 1) _ rfl O2.out NE2.out _ 0 _ (massC (L.drop k)) rfl SL2.out (SRC2.out _ _ B2.out) (massC_one _) (by unfold maxLen; omega) (by omega) (by exact B2.out.size) ?_; intro v3 w3 hown3 hg3 hne3; have O3 := hid hown3; have B3 : Hid (Below w.heap.size w w3) := own_below2 (w0 := w) (w3 := w3) O2.out B2.out hg3; clear hown3 hg3 hne3))
          all_goals
            have OF := O3.out
            rw [← massC_append_one, ← massC_append] at OF
            go_wp2_with fail
            all_goals
              go_ret
              refine ⟨⟨_, rfl, ?_⟩, B3.out⟩
              rw [TK.out.1, TK.out.2]
              have := MRow.of_owns OF
              rwa [List.append_assoc] at this

end Go.Proofs.YtjgcjjbnnlnilaaGreatDoor

/- Plain words: an insertion into a sorted list. -/
namespace Go.Proofs.YtjgcjjbnnlnilaaGreatDoor
open Go.RowKit Go.Shelf
open Go.Lib (decDigits nDigits)
set_option linter.unusedVariables false

theorem ltB_iff {x z : ByteArray} : ltB x z = true ↔ ¬ z.data.toList ≤ x.data.toList := by
  unfold ltB
  rw [bytesLess_eq, Lib.toList_data, Lib.toList_data, decide_eq_true_eq]
  exact List.not_le.symm

theorem drop_while_ge {key : ByteArray} : ∀ {L : List (ByteArray × ByteArray)}, L.Pairwise (fun p q => leB (keyL p) (keyL q) = true) → ∀ x ∈ L.dropWhile (fun x => ltB x.1 key), leB key.data.toList (keyL x) = true := by
  intro L
  induction L with
  | nil => intro _ x hx; simp at hx
  | cons a r ih =>
    intro h x hx
    obtain ⟨h1, h2⟩ := List.pairwise_cons.1 h
    by_cases ha : ltB a.1 key = true
    · rw [List.dropWhile_cons, if_pos ha] at hx
      exact ih h2 x hx
    · rw [List.dropWhile_cons, if_neg ha] at hx
      have hle : leB key.data.toList (keyL a) = true := by
        have := mt ltB_iff.2 ha
        unfold leB
        rw [decide_eq_true_eq]
        exact Decidable.not_not.1 this
      rcases List.mem_cons.1 hx with rfl | hx
      · exact hle
      · exact leB_trans _ _ _ hle (h1 x hx)

theorem mem_tw {α : Type} {f : α → Bool} {x : α} : ∀ {L : List α}, x ∈ L.takeWhile f → f x = true := by
  intro L
  induction L with
  | nil => intro h; simp at h
  | cons a r ih =>
    intro h
    by_cases ha : f a = true
    · rw [List.takeWhile_cons, if_pos ha] at h
      rcases List.mem_cons.1 h with rfl | h
      · exact ha
      · exact ih h
    · rw [List.takeWhile_cons, if_neg ha] at h; simp at h
theorem pw_inj {L : List (ByteArray × ByteArray)} : L.Pairwise (fun x y => x.1 ≠ y.1) → ∀ x ∈ L, ∀ y ∈ L, x.1 = y.1 → x = y := by
  induction L with
  | nil => intro _ x hx; simp at hx
  | cons a r ih =>
    intro h x hx y hy e
    obtain ⟨h1, h2⟩ := List.pairwise_cons.1 h
    rcases List.mem_cons.1 hx with e1 | hx' <;> rcases List.mem_cons.1 hy with e2 | hy'
    · rw [e1, e2]
    · rw [e1] at e; exact absurd e (h1 y hy')
    · rw [e2] at e; exact absurd e.symm (h1 x hx')
    · exact ih h2 x hx' y hy' e
theorem take_while_lt {key : ByteArray} {L : List (ByteArray × ByteArray)} : ∀ x ∈ L.takeWhile (fun x => ltB x.1 key), leB (keyL x) key.data.toList = true := fun x hx => by
  have h := mem_tw hx
  have := ltB_iff.1 h
  unfold leB
  rw [decide_eq_true_eq]
  rcases List.le_total (keyL x) key.data.toList with h' | h'
  · exact h'
  · exact absurd h' this

theorem addL_sort {L : List (ByteArray × ByteArray)} {key p : ByteArray} (hp : p ≠ ⟨#[48]⟩) (hk : ∀ x ∈ L, x.1 ≠ key) (hn : L.Pairwise (fun x y => x.1 ≠ y.1)) : addL (sortM L) key p = sortM (L ++ [(key, p)]) := by
  rw [addL, if_neg hp]
  have hs := sortM_sorted L
  have hperm : ((sortM L).takeWhile (fun x => ltB x.1 key) ++ (key, p) :: (sortM L).dropWhile (fun x => ltB x.1 key)).Perm (sortM (L ++ [(key, p)])) := by
    refine List.Perm.trans List.perm_middle ?_
    rw [List.takeWhile_append_dropWhile]
    refine List.Perm.trans ?_ (List.mergeSort_perm _ _).symm
    exact (List.Perm.cons _ (List.mergeSort_perm _ _)).trans (List.perm_append_singleton _ _).symm
  have hinj : ∀ x ∈ L ++ [(key, p)], ∀ y ∈ L ++ [(key, p)], x.1 = y.1 → x = y := by
    have hpw : (L ++ [(key, p)]).Pairwise (fun x y => x.1 ≠ y.1) := by
      rw [List.pairwise_append]
      exact ⟨hn, by simp, fun a ha b hb => by simp at hb; subst hb; exact hk a ha⟩
    exact pw_inj hpw
  refine List.Perm.eq_of_pairwise (le := fun p q => leB (keyL p) (keyL q) = true) ?_ ?_ (sortM_sorted _) hperm
  · intro a b ha hb h1 h2
    have ha' : a ∈ L ++ [(key, p)] := sortM_mem.1 (hperm.mem_iff.1 ha)
    have hb' : b ∈ L ++ [(key, p)] := sortM_mem.1 hb
    refine hinj a ha' b hb' ?_
    simp only [leB, decide_eq_true_eq] at h1 h2
    exact ba_ext (List.le_antisymm h1 h2)
  · rw [List.pairwise_append]
    refine ⟨hs.sublist (List.takeWhile_sublist _), ?_, fun a ha b hb => ?_⟩
    · rw [List.pairwise_cons]
      exact ⟨fun x hx => drop_while_ge hs x hx, hs.sublist (List.dropWhile_sublist _)⟩
    · have h1 := take_while_lt a ha
      rcases List.mem_cons.1 hb with rfl | hb
      · exact h1
      · exact leB_trans _ _ _ h1 (drop_while_ge hs b hb)
end Go.Proofs.YtjgcjjbnnlnilaaGreatDoor

/- Walks: pick.Exact. -/
namespace Go.Proofs.YtjgcjjbnnlnilaaGreatDoor
open Go.RowKit Go.Shelf Go.Maps
open Go.Lib (decDigits nDigits)
set_option linter.unusedVariables false
set_option linter.unusedSimpArgs false

/-- The pairs of the exact distribution behind i indexes, as a map, as a list. -/
def exD {H : Type} (ws : List Nat) (S : Nat) : Nat → DataW H
  | 0 => .map []
  | i + 1 => if ws.getD i 0 ≠ 0 then (exD ws S i).put (.string (numB i).data.toList) (.lit (.string (shB (ws.getD i 0) S).data.toList)) else exD ws S i
def exL (ws : List Nat) (S : Nat) : Nat → List (ByteArray × ByteArray)
  | 0 => []
  | i + 1 => if ws.getD i 0 ≠ 0 then exL ws S i ++ [(numB i, shB (ws.getD i 0) S)] else exL ws S i
theorem exL_mem {ws : List Nat} {S : Nat} {p : ByteArray × ByteArray} : ∀ {N : Nat}, p ∈ exL ws S N ↔ ∃ i, i < N ∧ ws.getD i 0 ≠ 0 ∧ p = (numB i, shB (ws.getD i 0) S)
  | 0 => by simp [exL]
  | N + 1 => by
    unfold exL
    have ih := @exL_mem ws S p N
    by_cases h : ws.getD N 0 ≠ 0
    · rw [if_pos h, List.mem_append, ih, List.mem_singleton]
      constructor
      · rintro (⟨i, h1, h2, h3⟩ | rfl)
        · exact ⟨i, by omega, h2, h3⟩
        · exact ⟨N, by omega, h, rfl⟩
      · rintro ⟨i, h1, h2, h3⟩
        rcases Nat.lt_or_ge i N with h4 | h4
        · exact .inl ⟨i, h4, h2, h3⟩
        · obtain rfl : i = N := by omega
          exact .inr h3
    · rw [if_neg h, ih]
      constructor
      · rintro ⟨i, h1, h2, h3⟩
        exact ⟨i, by omega, h2, h3⟩
      · rintro ⟨i, h1, h2, h3⟩
        rcases Nat.lt_or_ge i N with h4 | h4
        · exact ⟨i, h4, h2, h3⟩
        · obtain rfl : i = N := by omega
          exact absurd h2 h
theorem exL_length (ws : List Nat) (S : Nat) : ∀ N, (exL ws S N).length ≤ N
  | 0 => by simp [exL]
  | N + 1 => by
    unfold exL
    have := exL_length ws S N
    split <;> simp <;> omega
theorem reads_exD {H : Type} (ws : List Nat) (S : Nat) : ∀ N, Reads (exD (H := H) ws S N) (exL ws S N)
  | 0 => Reads.nil
  | N + 1 => by
    have ih := reads_exD (H := H) ws S N
    unfold exD exL
    by_cases h : ws.getD N 0 ≠ 0
    · rw [if_pos h, if_pos h]
      refine ih.put fun hm => ?_
      obtain ⟨p, hp, he⟩ := List.mem_map.1 hm
      obtain ⟨i, h1, -, rfl⟩ := exL_mem.1 hp
      simp only [keyL, numB_list] at he
      have := dec_inj he
      omega
    · rw [if_neg h, if_neg h]; exact ih
theorem exL_keys {ws : List Nat} {S N : Nat} (hN : N ≤ 64) : ∀ p ∈ exL ws S N, (keyL p).length ≤ 1000 := fun p hp => by
  obtain ⟨i, h1, -, rfl⟩ := exL_mem.1 hp
  have := nDigits_le (n := i) (k := 2) (by omega) (by omega)
  simp only [keyL, numB_list, Lib.decDigits_length]
  omega
/-- The exact distribution. -/
def exR (l : List ByteArray) : List (ByteArray × ByteArray) := if wsE l = 0 then sortM (exL (l.map bN) (l.map bN).sum l.length) else []

set_option maxRecDepth 100000 in
set_option maxHeartbeats 4000000 in
theorem p_Exact (w : World) (v : Value) (l : List ByteArray) (hv : Row w v (strs l)) (hl : ∀ x ∈ l, x.size ≤ 1000000) (hL : Lay w) :
    Calls Tryz.prog 22 #[v] w fun e w' => (∃ u, e = .returned (.tuple #[u, .int .i64 (wsE l)]) ∧ MRow w' u (exR l)) ∧ Below w.heap.size w w' := by
  have PC := hid (p_check w v l hv hl)
  have HL := hid hL; have HV := hid hv
  by_cases he : wsE l = 0
  · obtain ⟨D1, D2, D3⟩ := wsE_ok he
    have hS := wsE_pos he
    have er : exR l = sortM (exL (l.map bN) (l.map bN).sum l.length) := by rw [exR, if_pos he]
    rw [er, he]
    rw [he] at PC
    have PE := fun V hV hLV => hid (p_ends V v (l.map bN) D2 hV hLV)
    obtain ⟨a, c, rfl, q1, q2, -⟩ := hv.openS
    obtain ⟨N, hN⟩ : ∃ N, l.length = N := ⟨_, rfl⟩
    have HN := hid hN
    obtain ⟨ws, hws⟩ : ∃ ws, l.map bN = ws := ⟨_, rfl⟩
    have hlen : ws.length = N := by rw [← hws, List.length_map]; exact hN
    rw [hws] at PE D1 D2 hS ⊢
    rw [hN] at PE PC HV q1 D3 ⊢
    obtain ⟨m, rfl⟩ : ∃ m, N = m + 1 := ⟨N - 1, by omega⟩
    have hm : m < 64 := by have := D2.len; omega
    have HD1 := hid D1; have HWS := hid D2; have HLEN := hid hlen; have HPOS := hid hS
    have hmm := @run_makeMap Tryz.prog
    clear hv hl hL D1 D2 D3 hlen hS hN hws er he
    go_enter Tryz.func22, Tryz.ntmps22
    go_wp2_with fail
    refine PC.out.mono ?_; rintro e w1 ⟨rfl, hb1⟩
    have y1 := hid hb1; clear hb1
    go_wp2_with fail
    refine (PE _ (by rw [← HD1.out]; exact HV.out.call y1.out) (HL.out.call y1.out)).out.mono ?_; rintro e w2 ⟨⟨u, rfl, hu⟩, hb2⟩
    have y2 := hid (bnext y1.out hb2)
    have hu2 := hid hu
    obtain ⟨a5, c5, rfl, r1, r2, r3⟩ := hu.openS
    rw [endL_length] at hu2 r1 ⊢
    obtain ⟨g, o, rfl, hg, hc⟩ := r3 m _ (endL_get (by rw [HLEN.out]; omega))
    rw [pre_all (by rw [HLEN.out]; omega)] at hc
    rw [HLEN.out] at r1 ⊢
    obtain ⟨S0, hS0⟩ : ∃ s, numB ws.sum = s := ⟨_, rfl⟩
    have HS0 := hid hS0
    rw [hS0] at hc
    have HG := hid hg; have HC := hid hc
    clear hb2 hu hu2 r3 hS0 hg hc
    go_wp2_with fail
    have M0 := World.ownsMap_made (H := Unit) w2 Tryz.prog 9 (plainElem Tryz.prog 23)
    have B0 := hid ((Below.refl w2.heap.size w2).alloc (Nat.le_refl _) (.map #[] 0))
    obtain ⟨B, hB⟩ : ∃ B, w2.heap.size = B := ⟨_, rfl⟩
    rw [hB] at M0 ⊢
    have hgB : g < B := by rw [← hB]; exact HG.out
    have HB := hid hB
    have HM0 := hid M0
    clear M0 hB
    go_loopw [19] (fun s19 wr => ∃ i : Nat, s19 = .int .i64 (i : Nat) ∧ i ≤ m + 1 ∧ Hid (wr.ownsMap Tryz.prog 9 (plainElem (H := Unit) Tryz.prog 23) B i (exD ws ws.sum i)) ∧ Hid (Below w2.heap.size w2 wr)) (fun s19 wr => m + 1 - (intOf s19).toNat)
    case atStart => exact ⟨0, rfl, Nat.zero_le _, HM0, B0⟩
    case round =>
      obtain ⟨i, rfl, hi, hM, hW⟩ := hrel
      have yr := hid (bnext y2.out hW.out)
      by_cases hlt : i < m + 1
      · obtain ⟨x, hx⟩ : ∃ x, ws[i]? = some x := ⟨_, List.getElem?_eq_getElem (by rw [HLEN.out]; exact hlt)⟩
        obtain ⟨g', o', rfl, hg', hc'⟩ := HV.out.at (strs_get (show l[i]? = some (numB x) by rw [HD1.out, List.getElem?_map, hx]; rfl))
        have hc2 := (yr.out.cell (p := ⟨g', o' + i, none⟩) hg').trans hc'
        have hgd : ws.getD i 0 = x := by rw [List.getD_eq_getElem?_getD, hx]; rfl
        have hxd := HWS.out.dig x (List.mem_of_getElem? hx)
        have b1 : (0 : Int) ≤ (i : Int) := by omega
        have b2 : (i : Int) < (m : Int) + 1 := by omega
        have wi : IntKind.i64.wrap ((i : Int) + 1) = ((i + 1 : Nat) : Int) := by rw [IntWalk.i64_in _ ⟨by omega, by omega⟩]; omega
        obtain ⟨X0, hX0⟩ : ∃ s, numB x = s := ⟨_, rfl⟩
        rw [hX0] at hc2
        have HX0 := hid hX0; have HGD := hid hgd
        by_cases h0 : x = 0
        · have e0 : X0 = ⟨#[48]⟩ := by rw [← hX0, h0, numB_zero]
          subst e0
          have eD : Hid (exD (H := Unit) ws ws.sum (i + 1) = exD ws ws.sum i) := by show exD ws ws.sum (i + 1) = _; rw [exD, if_neg (by rw [hgd, h0]; simp)]
          clear hX0 hgd h0 hx hc' hg'
          go_wp2_with fail
          go_roundw
          case rel => exact ⟨i + 1, rfl, by omega, by rw [eD.out]; exact hM.out.mono (Nat.le_succ _), hW⟩
          case measure => simp [intOf] <;> omega
        · have hne := ne_lit (show ¬ X0 = ⟨[48].toArray⟩ by rw [← hX0, ← numB_zero]; exact numB_ne h0)
          have eD : Hid (exD (H := Unit) ws ws.sum (i + 1) = (exD ws ws.sum i).put (.string (numB i).data.toList) (.lit (.string (shB x ws.sum).data.toList))) := by show exD ws ws.sum (i + 1) = _; rw [exD, if_pos (by rw [hgd]; exact h0), hgd]
          have nS := HWS.out.sum
          have C1 := fun V hV => hid (s_Itoa V i (by omega) hV)
          have C2 := fun V hV => hid (pk_make V x ws.sum (by omega) (by omega) (by have := HPOS.out; omega) hV)
          obtain ⟨I0, hI0⟩ : ∃ s, numB i = s := ⟨_, rfl⟩
          obtain ⟨J0, hJ0⟩ : ∃ s, shB x ws.sum = s := ⟨_, rfl⟩
          obtain ⟨oe, hoe⟩ : ∃ s, outE (qmk false x ws.sum) = s := ⟨_, rfl⟩
          rw [hI0] at C1
          rw [hX0, HS0.out, hJ0, hoe] at C2
          have HI0 := hid hI0; have HJ0 := hid hJ0
          have e1 : IntKind.i64.wrap (((m + 1 : Nat) : Int) - 1) = (m : Int) := by rw [IntWalk.i64_in _ ⟨by omega, by omega⟩]; omega
          have e2 : IntKind.i64.wrap ((m : Int) + 1 - 1) = (m : Int) := by rw [IntWalk.i64_in _ ⟨by omega, by omega⟩]; omega
          have e3 : IntKind.i64.wrap (m : Int) = (m : Int) := by rw [IntWalk.i64_in _ ⟨by omega, by omega⟩]
          have b3 : (0 : Int) ≤ (m : Int) := by omega
          have b4 : (m : Int) < (m : Int) + 1 := by omega
          have KK : Hid (∀ w', Below w2.heap.size w2 w' → w'.cell? ⟨g, o + m, none⟩ = some (.string S0)) := fun w' hb => (hb.cell (p := ⟨g, o + m, none⟩) HG.out).trans HC.out
          clear hX0 hgd h0 hx hc' hg' hI0 hJ0 hoe nS
          go_wp2_with fail
          refine held_plain [0, 1, 3, 4, 5, 6, 7, 8, 9] 6 (fun w' => w'.cell? ⟨g, o + m, none⟩ = some (.string S0)) (by kernel_rfl) (by kernel_rfl) (by kernel_rfl) (by kernel_rfl) (KK.out _ hW.out.drew) ?_
          iterate 9
            refine ⟨_, rfl, ?_⟩
            apply Exists.intro
            refine ⟨.inl ⟨by rfl, ?_⟩, ?_⟩
            · (intro W' hW'; obtain q9 := hW'; go_simp; try (with_reducible rfl))
            (dsimp only [Act.put]; try simp only [List.setIfInBounds_toArray, List.set_cons_zero, List.set_cons_succ])
          refine held_one (i := 2) (by kernel_rfl) (by rfl) (by rfl) ?_
          go_wp2_with fail
          refine (C1 _ (HL.out.call yr.out.drew)).out.mono ?_; rintro e w4 ⟨rfl, hb4⟩
          have x4 := hid (show Below wr.heap.size wr w4 from (Below.refl _ _).drew.trans hb4)
          clear hb4
          go_wp2_with fail
          refine ⟨KK.out _ (hW.out.trans (x4.out.mono hW.out.size)), ?_⟩
          refine held_one (i := 10) (by kernel_rfl) (by rfl) (by rfl) ?_
          go_wp2_with fail
          refine (C2 _ (HL.out.call (bnext yr.out x4.out))).out.mono ?_; rintro e w5 ⟨rfl, hb5⟩
          have x5 := hid (bnext x4.out hb5)
          clear hb5
          go_wp2_with fail
          refine ⟨KK.out _ (hW.out.trans (x5.out.mono hW.out.size)), ?_⟩
          refine held_more (is := [11, 12, 13]) (g := 1) (by kernel_rfl) rfl (KK.out _ (hW.out.trans (x5.out.mono hW.out.size))) (by kernel_rfl) ?_
          iterate 3
            refine ⟨_, rfl, ?_⟩
            apply Exists.intro
            refine ⟨.inl ⟨by rfl, ?_⟩, ?_⟩
            · (intro W' hW'; obtain q9 := hW'; go_simp; try (with_reducible rfl))
            (dsimp only [Act.put]; try simp only [List.setIfInBounds_toArray, List.set_cons_zero, List.set_cons_succ])
          refine held_one (i := 14) (by kernel_rfl) (by rfl) (by rfl) ?_
          have hIs : I0.size ≤ maxLen := by rw [← HI0.out, numB_size]; have := nDigits_le (n := i) (k := 2) (by omega) (by omega); unfold maxLen; omega
          have hJs : J0.size ≤ maxLen := by rw [← HJ0.out]; exact shB_size _ _
          refine wpList_mapUpdate_own _ rfl _ _ _ 80 rfl 9 23 lawKeyed Tryz.underlying80 _ B i _ rfl (hM.out.kept (row := none) ⟨x5.out.os, x5.out.tape, x5.out.output, x5.out.size, fun k hk _ => x5.out.block k hk⟩ (by simp)) (by unfold maxLen; omega) _ _ _ rfl rfl (Go.WideMaps.keyOf_string_mk Tryz.underlying9 hIs) _ [] (plainElem_string Tryz.underlying23 hJs) ?_
          intro w15 hown hgrow
          have UM := hid hown
          have UB := hid (below_gb (hW.out.trans (x5.out.mono hW.out.size)) (by have := hW.out.size; have := x5.out.size; omega) hgrow (by have := HB.out; omega))
          have m0 := KK.out _ UB.out
          clear hown hgrow
          go_wp2_with fail
          refine ⟨m0, ?_⟩
          refine wpAnyH_done (by kernel_rfl) ?_ _
          simp only [Only]
          go_wp2_with fail
          go_roundw
          case rel => exact ⟨i + 1, rfl, by omega, by rw [eD.out, HI0.out, HJ0.out]; exact UM, UB⟩
          case measure => simp [intOf] <;> omega
      · obtain rfl : i = m + 1 := by omega
        have q1 : decide (((m + 1 : Nat) : Int) < ((m + 1 : Nat) : Int)) = false := by simp
        have Q := hid (p_listed _ B _ _ _ hM.out (reads_exD ws ws.sum (m + 1)) (by have := exL_length ws ws.sum (m + 1); omega) (exL_keys (by omega)))
        clear hlt
        go_wp2_with fail
        refine Q.out.mono ?_; rintro e w6 ⟨⟨u, rfl, hu⟩, hb6⟩
        have U6 := hid hu
        have y6 := hid (bnext yr.out hb6)
        clear hu hb6
        go_wp2_with fail
        go_ret2
        exact ⟨⟨_, rfl, U6.out⟩, y6.out⟩
  · have er : exR l = [] := by rw [exR, if_neg he]
    rw [er]
    obtain ⟨a, c, rfl, -⟩ := hv.openS
    obtain ⟨z, hz⟩ : ∃ z, wsE l = z := ⟨_, rfl⟩
    rw [hz] at PC he ⊢
    have q0 : (z != 0) = true := by simpa using he
    clear hv hl hL er he hz
    go_enter Tryz.func22, Tryz.ntmps22
    go_wp2_with fail
    refine PC.out.mono ?_; rintro e w1 ⟨rfl, hb1⟩
    go_wp2_with fail
    go_ret2
    exact ⟨⟨_, rfl, MRow.nil _⟩, hb1⟩
end Go.Proofs.YtjgcjjbnnlnilaaGreatDoor

/- Plain: how near the law's shares come to the exact ones. -/
namespace Go.Proofs.YtjgcjjbnnlnilaaGreatDoor
open Go.RowKit
set_option linter.unusedVariables false

theorem cntF_mul {ws : List Nat} (t i : Nat) (hS : 0 < ws.sum) : pre ws i * t ≤ cntF ws t i * ws.sum ∧ cntF ws t i * ws.sum < pre ws i * t + ws.sum := by
  unfold cntF
  obtain ⟨a, ha⟩ : ∃ a, pre ws i * t = a := ⟨_, rfl⟩
  rw [ha]
  have h1 := Nat.div_add_mod a ws.sum
  have h2 := Nat.mod_lt a hS
  by_cases h0 : a % ws.sum = 0
  · rw [if_neg (by simpa using h0), Nat.add_zero, Nat.mul_comm]
    omega
  · rw [if_pos h0, Nat.add_mul, Nat.one_mul, Nat.mul_comm]
    omega
theorem cntE_mul {ws : List Nat} (t i : Nat) (hS : 0 < ws.sum) : cntE ws t i * ws.sum ≤ pre ws (i + 1) * t ∧ pre ws (i + 1) * t < cntE ws t i * ws.sum + ws.sum := by
  unfold cntE
  obtain ⟨a, ha⟩ : ∃ a, pre ws (i + 1) * t = a := ⟨_, rfl⟩
  rw [ha]
  have h1 := Nat.div_add_mod a ws.sum
  have h2 := Nat.mod_lt a hS
  rw [Nat.mul_comm (a / ws.sum)]
  omega

theorem cnt_below {ws : List Nat} (t : Nat) {i x : Nat} (hS : 0 < ws.sum) (hx : ws[i]? = some x) : cnt ws t i * ws.sum ≤ x * t := by
  obtain ⟨f1, f2⟩ := cntF_mul t i hS
  obtain ⟨e1, e2⟩ := cntE_mul t i hS
  have hp := pre_succ hx
  rw [hp, Nat.add_mul] at e1 e2
  unfold cnt
  rcases Nat.lt_or_ge (cntF ws t i) (cntE ws t i) with h | h
  · rw [Nat.sub_mul]; omega
  · rw [Nat.sub_eq_zero_of_le h, Nat.zero_mul]; exact Nat.zero_le _
theorem cnt_near {ws : List Nat} (t : Nat) {i x : Nat} (hS : 0 < ws.sum) (hx : ws[i]? = some x) : x * t < (cnt ws t i + 2) * ws.sum := by
  obtain ⟨f1, f2⟩ := cntF_mul t i hS
  obtain ⟨e1, e2⟩ := cntE_mul t i hS
  have hp := pre_succ hx
  rw [hp, Nat.add_mul] at e1 e2
  unfold cnt
  rw [Nat.add_mul]
  rcases Nat.lt_or_ge (cntF ws t i) (cntE ws t i) with h | h
  · rw [Nat.sub_mul]; omega
  · rw [Nat.sub_eq_zero_of_le h, Nat.zero_mul]
    have := Nat.mul_le_mul_right ws.sum h
    omega

/-- How many of the first i weights are not 0. -/
def nzW (ws : List Nat) : Nat → Nat
  | 0 => 0
  | i + 1 => nzW ws i + (if ws.getD i 0 ≠ 0 then 1 else 0)
theorem nzW_le (ws : List Nat) : ∀ i, nzW ws i ≤ i
  | 0 => Nat.le_refl _
  | i + 1 => by have := nzW_le ws i; unfold nzW; split <;> omega
theorem pre_step (ws : List Nat) (i : Nat) : pre ws (i + 1) = pre ws i + ws.getD i 0 := by
  cases h : ws[i]? with
  | some x => rw [pre_succ h, List.getD_eq_getElem?_getD, h]; rfl
  | none =>
    have hl := List.getElem?_eq_none_iff.1 h
    rw [List.getD_eq_getElem?_getD, h]
    unfold pre
    rw [List.take_of_length_le hl, List.take_of_length_le (by omega)]
    rfl
theorem cnt_zero {ws : List Nat} (t : Nat) {i : Nat} (hS : 0 < ws.sum) (h : ws.getD i 0 = 0) : cnt ws t i = 0 := by
  obtain ⟨f1, f2⟩ := cntF_mul t i hS
  obtain ⟨e1, e2⟩ := cntE_mul t i hS
  rw [pre_step, h, Nat.add_zero] at e1 e2
  unfold cnt
  rcases Nat.lt_or_ge (cntF ws t i) (cntE ws t i) with h1 | h1
  · have := Nat.mul_le_mul_right ws.sum (show cntF ws t i + 1 ≤ cntE ws t i from h1)
    rw [Nat.add_mul, Nat.one_mul] at this
    omega
  · omega

theorem late_steps {ws : List Nat} (t : Nat) (hS : 0 < ws.sum) : ∀ i, (nzW ws i = 0 → pre ws i = 0 ∧ lwS ws t i = 0) ∧ (nzW ws i ≠ 0 → pre ws i * t / ws.sum + 1 ≤ lwS ws t i + nzW ws i)
  | 0 => ⟨fun _ => ⟨rfl, rfl⟩, fun h => absurd rfl h⟩
  | i + 1 => by
    obtain ⟨a1, a2⟩ := late_steps t hS i
    have hE : pre ws (i + 1) * t / ws.sum = cntE ws t i := rfl
    by_cases h0 : ws.getD i 0 = 0
    · have e1 : nzW ws (i + 1) = nzW ws i := by rw [nzW, if_neg (by simpa using h0)]; rfl
      have e2 : pre ws (i + 1) = pre ws i := by rw [pre_step, h0]; rfl
      have e3 : lwS ws t (i + 1) = lwS ws t i := by rw [lwS, cnt_zero t hS h0]; rfl
      rw [e1, e2, e3]
      exact ⟨a1, a2⟩
    · have e1 : nzW ws (i + 1) = nzW ws i + 1 := by rw [nzW, if_pos h0]
      refine ⟨fun h => by omega, fun _ => ?_⟩
      rw [e1, hE, lwS]
      by_cases h1 : nzW ws i = 0
      · obtain ⟨p0, l0⟩ := a1 h1
        have f0 : cntF ws t i = 0 := by unfold cntF; rw [p0]; simp
        unfold cnt
        rw [f0, l0, h1]
        omega
      · have b := a2 h1
        have f0 : cntF ws t i ≤ pre ws i * t / ws.sum + 1 := by unfold cntF; split <;> omega
        unfold cnt
        omega

/-- At most one cell less than there are weights that are not 0 is late. -/
theorem late_few {ws : List Nat} (t : Nat) (hS : 0 < ws.sum) : 0 < nzW ws ws.length ∧ t - lwS ws t ws.length ≤ nzW ws ws.length - 1 := by
  obtain ⟨a1, a2⟩ := late_steps t hS ws.length
  have hp : pre ws ws.length = ws.sum := pre_all (Nat.le_refl _)
  have h0 : nzW ws ws.length ≠ 0 := fun e => by
    have := (a1 e).1
    rw [hp] at this
    omega
  have h2 := a2 h0
  rw [hp, Nat.mul_div_cancel_left _ hS] at h2
  exact ⟨by omega, by omega⟩
end Go.Proofs.YtjgcjjbnnlnilaaGreatDoor

/- Plain: small lemmas on texts of numbers, used by the program's reader and the reference's. -/
namespace Go.Proofs.YtjgcjjbnnlnilaaGreatDoor
open Go.RowKit Go.Shelf

theorem bN_limbs {s : ByteArray} (h : allDig s.data.toList) (hs : ¬ 4000 < s.size) : (limbs (bN s)).length ≤ 1000000 := by
  refine dv_limbs h ?_
  have : s.data.toList.length = s.size := Array.length_toList
  omega

theorem qD_false {s : ByteArray} (h : cS s = false) : qD s = ⟨#[49]⟩ := by simp [qD, h]
theorem qD_true {s : ByteArray} (h : cS s = true) : qD s = cB s := by simp [qD, h]
end Go.Proofs.YtjgcjjbnnlnilaaGreatDoor

/- Walks: the reference's Read. -/
namespace Go.Proofs.YtjgcjjbnnlnilaaGreatDoor
open Go.RowKit
open Go.Lib (decDigits nDigits)
set_option linter.unusedVariables false
set_option linter.unusedSimpArgs false

/-- What slash, integer and digits give for a text, under names. -/
structure CutR (s W B D : ByteArray) (S M I fb : Bool) (k : Nat) : Prop where
  sl : ∀ w, Calls Tryz.prog 117 #[.string s] w fun e w' => e = .returned (.int .i64 k) ∧ w = w'
  kle : k ≤ s.size
  cutW : s.extract 0 k = W
  cutB : S = true → s.extract (k + 1) s.size = B
  has : S = decide (k < s.size)
  int : ∀ w, Calls Tryz.prog 112 #[.string W] w fun e w' => e = .returned (.tuple #[.bool M, .string D, .bool I]) ∧ w = w'
  form : ∀ w, Calls Tryz.prog 118 #[.string B] w fun e w' => e = .returned (.bool fb) ∧ w = w'

theorem cutR_of (s : ByteArray) (hs : s.size ≤ 1000000) : CutR s (cW s) (cB s) (iD (cW s)) (cS s) (iM (cW s)) (iB (cW s)) (fB (cB s)) (cW s).size := by
  have key : ∀ k, isSlash s.data.toList k → k = (cW s).size := by
    intro k hk
    obtain ⟨h1, h2, -⟩ := slash_cut hk
    rw [h2]
    simp
    omega
  have ex : ∃ k, isSlash s.data.toList k := by
    rcases sl_cases s.data.toList with hn | ⟨A, B, hA, e⟩
    · exact ⟨s.data.toList.length, Nat.le_refl _, fun j b _ hb => hn b (List.mem_of_getElem? hb), fun h => absurd h (Nat.lt_irrefl _)⟩
    · refine ⟨A.length, by rw [e]; simp, fun j b hj hb => ?_, fun _ => by rw [e]; simp⟩
      rw [e, List.getElem?_append_left hj] at hb
      exact hA b (List.mem_of_getElem? hb)
  obtain ⟨k, hk⟩ := ex
  obtain ⟨h1, h2, h3, h4⟩ := slash_cut hk
  have hk' := key k hk
  subst hk'
  exact {
    sl := fun w => (r2_slash w s (by omega)).mono (by
      rintro e w' ⟨⟨j, rfl, hj⟩, rfl⟩
      rw [key j hj]
      exact ⟨rfl, rfl⟩)
    kle := h1
    cutW := h2.symm
    cutB := fun h => (h4 (by rw [h3] at h; simpa using h)).symm
    has := h3
    int := fun w => r2_integer w (cW s) (by have := cW_size s; omega)
    form := fun w => r2_digits w (cB s) (by have := cB_size s; omega) }

/-- What reading a text gives back. -/
def RetR (x : Int) (m : Bool) (n d : Nat) (e : Ending) (w' : World) : Prop := ∃ v, e = .returned (.tuple #[v, .int .i64 x]) ∧ (x = 0 → ∃ N D, v = .agg #[.bool m, N, D] ∧ IsN .i64 w' N n ∧ IsN .i64 w' D d) ∧ (x ≠ 0 → v = .agg #[.bool false, .slice none 0 0, .slice none 0 0])
theorem RetR.err {x : Int} {m : Bool} {n d : Nat} {w' : World} (h : x ≠ 0) : RetR x m n d (.returned (.tuple #[.agg #[.bool false, .slice none 0 0, .slice none 0 0], .int .i64 x])) w' := ⟨_, rfl, fun e => absurd e h, fun _ => rfl⟩

set_option maxRecDepth 100000 in
set_option maxHeartbeats 1000000 in
theorem rd_bad (w : World) (s W B D : ByteArray) (S M I fb : Bool) (k : Nat) (hs : s.size ≤ 1000000) (HC : CutR s W B D S M I fb k)
    (h : (I && (!S || (decide (D ≠ ⟨#[48]⟩) && fb && decide (B ≠ ⟨#[48]⟩) && decide (B ≠ ⟨#[49]⟩)))) = false) :
    Calls Tryz.prog 65 #[.string s] w fun e w' => e = .returned (.tuple #[.agg #[.bool false, .slice none 0 0, .slice none 0 0], .int .i64 3]) ∧ Below w.heap.size w w' := by
  have key : (I = false) ∨ (I = true ∧ S = true ∧ (D = ⟨#[48]⟩ ∨ (¬ D = ⟨#[48]⟩ ∧ (fb = false ∨ (fb = true ∧ (B = ⟨#[48]⟩ ∨ (¬ B = ⟨#[48]⟩ ∧ B = ⟨#[49]⟩))))))) := by
    by_cases h1 : D = ⟨#[48]⟩ <;> by_cases h2 : B = ⟨#[48]⟩ <;> by_cases h3 : B = ⟨#[49]⟩ <;> cases I <;> cases S <;> cases fb <;> simp [h1, h2, h3] at h ⊢
  have HK := hid HC
  have kle := HC.kle
  have hlt := HC.has
  have cw := hid HC.cutW
  have cb := hid HC.cutB
  clear HC h
  have t0 := hid (Blk.new w #[.bool false, .slice none 0 0, .slice none 0 0] 89)
  have t1 := hid ((Below.refl w.heap.size w).alloc (Nat.le_refl _) (.cells #[.bool false, .slice none 0 0, .slice none 0 0] 89))
  have d0 := t0.out.cell 0
  have d1 := t0.out.cell 1
  have d2 := t0.out.cell 2
  have e0 := t0.out.free 0
  have e1 := t0.out.free 1
  have e2 := t0.out.free 2
  simp at d0 d1 d2
  have ht : ∀ {b : Bool}, b = decide (k < s.size) → decide (k < s.size) = b := fun h => h.symm
  have wk : IntKind.i64.wrap ((k : Int) + 1) = (k : Int) + 1 := by rw [IntWalk.i64_in _ ⟨by omega, by omega⟩]
  have kle2 : S = true → k + 1 ≤ s.size := fun h => by rw [h] at hlt; have := of_decide_eq_true hlt.symm; omega
  rcases key with rfl | ⟨rfl, rfl, rfl | ⟨h1, rfl | ⟨rfl, rfl | ⟨h2, rfl⟩⟩⟩⟩
  · cases S
    · have q0 := ht hlt
      clear hlt ht kle2
      go_enter Tryz.func65, Tryz.ntmps65
      go_wp2_with (first
        | (go_at_call 117; refine (HK.out.sl _).mono ?_; rintro e w1 ⟨rfl, rfl⟩)
        | (go_at_call 112; rw [cw.out]; refine (HK.out.int _).mono ?_; rintro e w2 ⟨rfl, rfl⟩)
        | (go_at_call 118; (first | rw [cb.out trivial] | rw [cb.out rfl]); refine (HK.out.form _).mono ?_; rintro e w3 ⟨rfl, rfl⟩)
        | fail)
      obtain ⟨s1, s2⟩ := set3 t0.out false none none 0 0 0 0
      have f0 := s2.cell 0
      have f1 := s2.cell 1
      have f2 := s2.cell 2
      simp at f0 f1 f2
      refine bodyPost_ret (v := .tuple #[.agg #[.bool false, .slice none 0 0, .slice none 0 0], .int .i64 3]) (by simp [results, Tryz.results65, go_sem, f0, f1, f2]) rfl ⟨rfl, ?_⟩
      first | exact t1.out | exact ((t1.out.setCell (Nat.le_refl _) _).setCell (Nat.le_refl _) _).setCell (Nat.le_refl _) _
    · have q0 := ht hlt
      have kle3 := kle2 rfl
      clear hlt ht kle2
      go_enter Tryz.func65, Tryz.ntmps65
      go_wp2_with (first
        | (go_at_call 117; refine (HK.out.sl _).mono ?_; rintro e w1 ⟨rfl, rfl⟩)
        | (go_at_call 112; rw [cw.out]; refine (HK.out.int _).mono ?_; rintro e w2 ⟨rfl, rfl⟩)
        | (go_at_call 118; (first | rw [cb.out trivial] | rw [cb.out rfl]); refine (HK.out.form _).mono ?_; rintro e w3 ⟨rfl, rfl⟩)
        | fail)
      obtain ⟨s1, s2⟩ := set3 t0.out false none none 0 0 0 0
      have f0 := s2.cell 0
      have f1 := s2.cell 1
      have f2 := s2.cell 2
      simp at f0 f1 f2
      refine bodyPost_ret (v := .tuple #[.agg #[.bool false, .slice none 0 0, .slice none 0 0], .int .i64 3]) (by simp [results, Tryz.results65, go_sem, f0, f1, f2]) rfl ⟨rfl, ?_⟩
      first | exact t1.out | exact ((t1.out.setCell (Nat.le_refl _) _).setCell (Nat.le_refl _) _).setCell (Nat.le_refl _) _
  · have q0 := ht hlt
    have kle3 := kle2 rfl
    clear hlt ht kle2
    go_enter Tryz.func65, Tryz.ntmps65
    go_wp2_with (first
      | (go_at_call 117; refine (HK.out.sl _).mono ?_; rintro e w1 ⟨rfl, rfl⟩)
      | (go_at_call 112; rw [cw.out]; refine (HK.out.int _).mono ?_; rintro e w2 ⟨rfl, rfl⟩)
      | (go_at_call 118; (first | rw [cb.out trivial] | rw [cb.out rfl]); refine (HK.out.form _).mono ?_; rintro e w3 ⟨rfl, rfl⟩)
      | fail)
    obtain ⟨s1, s2⟩ := set3 t0.out false none none 0 0 0 0
    have f0 := s2.cell 0
    have f1 := s2.cell 1
    have f2 := s2.cell 2
    simp at f0 f1 f2
    refine bodyPost_ret (v := .tuple #[.agg #[.bool false, .slice none 0 0, .slice none 0 0], .int .i64 3]) (by simp [results, Tryz.results65, go_sem, f0, f1, f2]) rfl ⟨rfl, ?_⟩
    first | exact t1.out | exact ((t1.out.setCell (Nat.le_refl _) _).setCell (Nat.le_refl _) _).setCell (Nat.le_refl _) _
  · have q0 := ht hlt
    have kle3 := kle2 rfl
    have i1 := ne_lit (l := [48]) h1
    clear hlt ht kle2
    go_enter Tryz.func65, Tryz.ntmps65
    go_wp2_with (first
      | (go_at_call 117; refine (HK.out.sl _).mono ?_; rintro e w1 ⟨rfl, rfl⟩)
      | (go_at_call 112; rw [cw.out]; refine (HK.out.int _).mono ?_; rintro e w2 ⟨rfl, rfl⟩)
      | (go_at_call 118; (first | rw [cb.out trivial] | rw [cb.out rfl]); refine (HK.out.form _).mono ?_; rintro e w3 ⟨rfl, rfl⟩)
      | fail)
    obtain ⟨s1, s2⟩ := set3 t0.out false none none 0 0 0 0
    have f0 := s2.cell 0
    have f1 := s2.cell 1
    have f2 := s2.cell 2
    simp at f0 f1 f2
    refine bodyPost_ret (v := .tuple #[.agg #[.bool false, .slice none 0 0, .slice none 0 0], .int .i64 3]) (by simp [results, Tryz.results65, go_sem, f0, f1, f2]) rfl ⟨rfl, ?_⟩
    first | exact t1.out | exact ((t1.out.setCell (Nat.le_refl _) _).setCell (Nat.le_refl _) _).setCell (Nat.le_refl _) _
  · have q0 := ht hlt
    have kle3 := kle2 rfl
    have i1 := ne_lit (l := [48]) h1
    clear hlt ht kle2
    go_enter Tryz.func65, Tryz.ntmps65
    go_wp2_with (first
      | (go_at_call 117; refine (HK.out.sl _).mono ?_; rintro e w1 ⟨rfl, rfl⟩)
      | (go_at_call 112; rw [cw.out]; refine (HK.out.int _).mono ?_; rintro e w2 ⟨rfl, rfl⟩)
      | (go_at_call 118; (first | rw [cb.out trivial] | rw [cb.out rfl]); refine (HK.out.form _).mono ?_; rintro e w3 ⟨rfl, rfl⟩)
      | fail)
    obtain ⟨s1, s2⟩ := set3 t0.out false none none 0 0 0 0
    have f0 := s2.cell 0
    have f1 := s2.cell 1
    have f2 := s2.cell 2
    simp at f0 f1 f2
    refine bodyPost_ret (v := .tuple #[.agg #[.bool false, .slice none 0 0, .slice none 0 0], .int .i64 3]) (by simp [results, Tryz.results65, go_sem, f0, f1, f2]) rfl ⟨rfl, ?_⟩
    first | exact t1.out | exact ((t1.out.setCell (Nat.le_refl _) _).setCell (Nat.le_refl _) _).setCell (Nat.le_refl _) _
  · have q0 := ht hlt
    have kle3 := kle2 rfl
    have i1 := ne_lit (l := [48]) h1
    have i2 := ne_lit (l := [48]) h2
    clear hlt ht kle2
    go_enter Tryz.func65, Tryz.ntmps65
    go_wp2_with (first
      | (go_at_call 117; refine (HK.out.sl _).mono ?_; rintro e w1 ⟨rfl, rfl⟩)
      | (go_at_call 112; rw [cw.out]; refine (HK.out.int _).mono ?_; rintro e w2 ⟨rfl, rfl⟩)
      | (go_at_call 118; (first | rw [cb.out trivial] | rw [cb.out rfl]); refine (HK.out.form _).mono ?_; rintro e w3 ⟨rfl, rfl⟩)
      | fail)
    obtain ⟨s1, s2⟩ := set3 t0.out false none none 0 0 0 0
    have f0 := s2.cell 0
    have f1 := s2.cell 1
    have f2 := s2.cell 2
    simp at f0 f1 f2
    refine bodyPost_ret (v := .tuple #[.agg #[.bool false, .slice none 0 0, .slice none 0 0], .int .i64 3]) (by simp [results, Tryz.results65, go_sem, f0, f1, f2]) rfl ⟨rfl, ?_⟩
    first | exact t1.out | exact ((t1.out.setCell (Nat.le_refl _) _).setCell (Nat.le_refl _) _).setCell (Nat.le_refl _) _

set_option maxRecDepth 100000 in
set_option maxHeartbeats 1000000 in
theorem rd_long (w : World) (s W B D : ByteArray) (S M fb : Bool) (k : Nat) (hs : s.size ≤ 1000000) (HC : CutR s W B D S M true fb k)
    (h : S = false ∨ (S = true ∧ ¬ D = ⟨#[48]⟩ ∧ ¬ B = ⟨#[48]⟩ ∧ ¬ B = ⟨#[49]⟩ ∧ fb = true)) (hl : 4000 < D.size ∨ (¬ 4000 < D.size ∧ S = true ∧ 4000 < B.size)) :
    Calls Tryz.prog 65 #[.string s] w fun e w' => e = .returned (.tuple #[.agg #[.bool false, .slice none 0 0, .slice none 0 0], .int .i64 5]) ∧ Below w.heap.size w w' := by
  have HK := hid HC
  have kle := HC.kle
  have hlt := HC.has
  have cw := hid HC.cutW
  have cb := hid HC.cutB
  clear HC
  have t0 := hid (Blk.new w #[.bool false, .slice none 0 0, .slice none 0 0] 89)
  have t1 := hid ((Below.refl w.heap.size w).alloc (Nat.le_refl _) (.cells #[.bool false, .slice none 0 0, .slice none 0 0] 89))
  have wk : IntKind.i64.wrap ((k : Int) + 1) = (k : Int) + 1 := by rw [IntWalk.i64_in _ ⟨by omega, by omega⟩]
  have d0 := t0.out.cell 0
  have d1 := t0.out.cell 1
  have d2 := t0.out.cell 2
  have e0 := t0.out.free 0
  have e1 := t0.out.free 1
  have e2 := t0.out.free 2
  simp at d0 d1 d2
  have kle2 : S = true → k + 1 ≤ s.size := fun h => by rw [h] at hlt; have := of_decide_eq_true hlt.symm; omega
  have q0 := hlt.symm
  clear hlt
  rcases h with rfl | ⟨rfl, h1, h2, h3, rfl⟩
  · have q1 : decide ((4000 : Int) < (D.size : Int)) = true := by
      rcases hl with hl | ⟨_, hl, _⟩
      · simp; omega
      · cases hl
    clear hl kle2
    go_enter Tryz.func65, Tryz.ntmps65
    go_wp2_with (first
      | (go_at_call 117; refine (HK.out.sl _).mono ?_; rintro e w1 ⟨rfl, rfl⟩)
      | (go_at_call 112; rw [cw.out]; refine (HK.out.int _).mono ?_; rintro e w2 ⟨rfl, rfl⟩)
      | (go_at_call 118; (first | rw [cb.out trivial] | rw [cb.out rfl]); refine (HK.out.form _).mono ?_; rintro e w3 ⟨rfl, rfl⟩)
      | fail)
    obtain ⟨s1, s2⟩ := set3 t0.out false none none 0 0 0 0
    have f0 := s2.cell 0
    have f1 := s2.cell 1
    have f2 := s2.cell 2
    simp at f0 f1 f2
    refine bodyPost_ret (v := .tuple #[.agg #[.bool false, .slice none 0 0, .slice none 0 0], .int .i64 5]) (by simp [results, Tryz.results65, go_sem, f0, f1, f2]) rfl ⟨rfl, ?_⟩
    first | exact t1.out | exact ((t1.out.setCell (Nat.le_refl _) _).setCell (Nat.le_refl _) _).setCell (Nat.le_refl _) _
  · have kle3 := kle2 rfl
    have i1 := ne_lit (l := [48]) h1
    have i2 := ne_lit (l := [48]) h2
    have i3 := ne_lit (l := [49]) h3
    clear kle2
    rcases hl with hl | ⟨hl, -, hl2⟩
    · have q1 : decide ((4000 : Int) < (D.size : Int)) = true := by simp; omega
      clear hl
      go_enter Tryz.func65, Tryz.ntmps65
      go_wp2_with (first
        | (go_at_call 117; refine (HK.out.sl _).mono ?_; rintro e w1 ⟨rfl, rfl⟩)
        | (go_at_call 112; rw [cw.out]; refine (HK.out.int _).mono ?_; rintro e w2 ⟨rfl, rfl⟩)
        | (go_at_call 118; (first | rw [cb.out trivial] | rw [cb.out rfl]); refine (HK.out.form _).mono ?_; rintro e w3 ⟨rfl, rfl⟩)
        | fail)
      obtain ⟨s1, s2⟩ := set3 t0.out false none none 0 0 0 0
      have f0 := s2.cell 0
      have f1 := s2.cell 1
      have f2 := s2.cell 2
      simp at f0 f1 f2
      refine bodyPost_ret (v := .tuple #[.agg #[.bool false, .slice none 0 0, .slice none 0 0], .int .i64 5]) (by simp [results, Tryz.results65, go_sem, f0, f1, f2]) rfl ⟨rfl, ?_⟩
      first | exact t1.out | exact ((t1.out.setCell (Nat.le_refl _) _).setCell (Nat.le_refl _) _).setCell (Nat.le_refl _) _
    · have q1 : decide ((4000 : Int) < (D.size : Int)) = false := by simp; omega
      have q2 : decide ((4000 : Int) < (B.size : Int)) = true := by simp; omega
      clear hl hl2
      go_enter Tryz.func65, Tryz.ntmps65
      go_wp2_with (first
        | (go_at_call 117; refine (HK.out.sl _).mono ?_; rintro e w1 ⟨rfl, rfl⟩)
        | (go_at_call 112; rw [cw.out]; refine (HK.out.int _).mono ?_; rintro e w2 ⟨rfl, rfl⟩)
        | (go_at_call 118; (first | rw [cb.out trivial] | rw [cb.out rfl]); refine (HK.out.form _).mono ?_; rintro e w3 ⟨rfl, rfl⟩)
        | fail)
      obtain ⟨s1, s2⟩ := set3 t0.out false none none 0 0 0 0
      have f0 := s2.cell 0
      have f1 := s2.cell 1
      have f2 := s2.cell 2
      simp at f0 f1 f2
      refine bodyPost_ret (v := .tuple #[.agg #[.bool false, .slice none 0 0, .slice none 0 0], .int .i64 5]) (by simp [results, Tryz.results65, go_sem, f0, f1, f2]) rfl ⟨rfl, ?_⟩
      first | exact t1.out | exact ((t1.out.setCell (Nat.le_refl _) _).setCell (Nat.le_refl _) _).setCell (Nat.le_refl _) _

set_option maxRecDepth 100000 in
set_option maxHeartbeats 1000000 in
theorem rd_frac (w : World) (s W B D : ByteArray) (M : Bool) (k : Nat) (hs : s.size ≤ 1000000) (HC : CutR s W B D true M true true k)
    (h1 : ¬ D = ⟨#[48]⟩) (h2 : ¬ B = ⟨#[48]⟩) (h3 : ¬ B = ⟨#[49]⟩) (hl1 : ¬ 4000 < D.size) (hl2 : ¬ 4000 < B.size) (hd1 : allDig D.data.toList) (hd2 : allDig B.data.toList) :
    Calls Tryz.prog 65 #[.string s] w fun e w' => RetR (if Nat.gcd (bN D) (bN B) = 1 then 0 else 3) M (bN D) (bN B) e w' ∧ Below w.heap.size w w' := by
  obtain ⟨xc, hxc⟩ : ∃ x : Int, (if Nat.gcd (bN D) (bN B) = 1 then 0 else 3) = x := ⟨_, rfl⟩
  rw [hxc]
  have HXC := hid hxc
  clear hxc
  have HK := hid HC
  have kle := HC.kle
  have hlt := HC.has
  have cw := hid HC.cutW
  have cb := hid HC.cutB
  clear HC
  have t0 := hid (Blk.new w #[.bool false, .slice none 0 0, .slice none 0 0] 89)
  have t1 := hid ((Below.refl w.heap.size w).alloc (Nat.le_refl _) (.cells #[.bool false, .slice none 0 0, .slice none 0 0] 89))
  have wk : IntKind.i64.wrap ((k : Int) + 1) = (k : Int) + 1 := by rw [IntWalk.i64_in _ ⟨by omega, by omega⟩]
  have kle3 : k + 1 ≤ s.size := by have := of_decide_eq_true hlt.symm; omega
  have q0 := hlt.symm
  clear hlt
  have i1 := ne_lit (l := [48]) h1
  have i2 := ne_lit (l := [48]) h2
  have i3 := ne_lit (l := [49]) h3
  have q1 : decide ((4000 : Int) < (D.size : Int)) = false := by simp; omega
  have q2 : decide ((4000 : Int) < (B.size : Int)) = false := by simp; omega
  have L1 := hid (bN_limbs hd1 hl1)
  have L2 := hid (bN_limbs hd2 hl2)
  have P1 := fun W => hid (r1_Read W D hd1 (by omega))
  have P2 := fun W => hid (r1_Read W B hd2 (by omega))
  clear hd1 hd2 h1 h2 h3 hl1 hl2
  go_enter Tryz.func65, Tryz.ntmps65
  go_wp2_with (first
    | (go_at_call 117; refine (HK.out.sl _).mono ?_; rintro e w1 ⟨rfl, rfl⟩)
    | (go_at_call 112; rw [cw.out]; refine (HK.out.int _).mono ?_; rintro e w2 ⟨rfl, rfl⟩)
    | (go_at_call 118; (first | rw [cb.out trivial] | rw [cb.out rfl]); refine (HK.out.form _).mono ?_; rintro e w3 ⟨rfl, rfl⟩)
    | fail)
  refine (P1 _).out.mono ?_; rintro e w4 ⟨⟨v4, rfl, hv4⟩, hb4⟩
  have x4 := hid (t0.out.call hb4)
  have y4 := hid (bnext t1.out hb4)
  have N4 := hid hv4
  clear hb4 hv4
  obtain ⟨a4, c4, rfl, _⟩ := N4.out.openI
  obtain ⟨k1, hk1⟩ : ∃ k, (limbs (dv D.data.toList)).length = k := ⟨_, rfl⟩
  rw [hk1] at N4 ⊢
  clear P1
  go_wp2_with fail
  refine (P2 _).out.mono ?_; rintro e w5 ⟨⟨v5, rfl, hv5⟩, hb5⟩
  have x5 := hid (x4.out.call hb5)
  have y5 := hid (bnext y4.out hb5)
  have N5 := hid (N4.out.call hb5)
  have D5 := hid hv5
  clear hb5 hv5
  obtain ⟨a5, c5, rfl, _⟩ := D5.out.openI
  obtain ⟨k2, hk2⟩ : ∃ k, (limbs (dv B.data.toList)).length = k := ⟨_, rfl⟩
  rw [hk2] at D5 ⊢
  clear P2
  go_wp2_with fail
  have z5 := hid (Blk.new w5 #[.bool M, .slice a4 k1 c4, .slice a5 k2 c5] 89)
  have b5 := hid ((Below.refl w5.heap.size w5).alloc (Nat.le_refl _) (.cells #[.bool M, .slice a4 k1 c4, .slice a5 k2 c5] 89))
  have g0 := z5.out.cell 0
  have g1 := z5.out.cell 1
  have g2 := z5.out.cell 2
  simp at g0 g1 g2
  go_wp2_with fail
  refine (r1_Common _ _ _ _ _ (N5.out.call b5.out) (D5.out.call b5.out) L1.out L2.out).mono ?_
  rintro e w6 ⟨⟨v6, rfl, hv6⟩, hb6⟩
  have z6 := hid (z5.out.call hb6)
  have x6 := hid ((x5.out.call b5.out).call hb6)
  have y6 := hid (bnext (bnext y5.out b5.out) hb6)
  have N6 := hid ((N5.out.call b5.out).call hb6)
  have D6 := hid ((D5.out.call b5.out).call hb6)
  have G6 := hid hv6
  clear hb6 hv6 g0 g1 g2
  go_wp2_with fail
  refine (r2_one _).mono ?_
  rintro e w7 ⟨⟨v7, rfl, hv7⟩, hb7⟩
  have z7 := hid (z6.out.call hb7)
  have x7 := hid (x6.out.call hb7)
  have y7 := hid (bnext y6.out hb7)
  have N7 := hid (N6.out.call hb7)
  have D7 := hid (D6.out.call hb7)
  have G7 := hid (G6.out.call hb7)
  have O7 := hid hv7
  clear hb7 hv7
  go_wp2_with fail
  refine (r1_Order _ _ _ _ _ G7.out O7.out).mono ?_
  rintro e w8 ⟨rfl, hb8⟩
  have z8 := hid (z7.out.call hb8)
  have x8 := hid (x7.out.call hb8)
  have y8 := hid (bnext y7.out hb8)
  have N8 := hid (N7.out.call hb8)
  have D8 := hid (D7.out.call hb8)
  clear hb8
  have d0 := x8.out.cell 0
  have d1 := x8.out.cell 1
  have d2 := x8.out.cell 2
  have e0 := x8.out.free 0
  have e1 := x8.out.free 1
  have e2 := x8.out.free 2
  have g0 := z8.out.cell 0
  have g1 := z8.out.cell 1
  have g2 := z8.out.cell 2
  simp at d0 d1 d2 g0 g1 g2
  
  by_cases hG : Nat.gcd (bN D) (bN B) = 1
  · have hO : ordN (Nat.gcd (dv D.data.toList) (dv B.data.toList)) 1 = 0 := by rw [show Nat.gcd (dv D.data.toList) (dv B.data.toList) = 1 from hG]; exact ordN_eq
    have X0 := hid (show xc = 0 from by rw [← HXC.out, if_pos hG])
    rw [hO]
    clear hO hG
    go_wp2_with fail
    obtain ⟨s1, s2⟩ := set3 x8.out M a4 a5 k1 c4 k2 c5
    have f0 := s2.cell 0
    have f1 := s2.cell 1
    have f2 := s2.cell 2
    simp at f0 f1 f2
    refine bodyPost_ret (v := .tuple #[.agg #[.bool M, .slice a4 k1 c4, .slice a5 k2 c5], .int .i64 0]) (by simp [results, Tryz.results65, go_sem, f0, f1, f2]) rfl ⟨by rw [X0.out]; exact ⟨_, rfl, fun _ => ⟨_, _, rfl, s1 _ _ _ N8.out, s1 _ _ _ D8.out⟩, fun h => absurd rfl h⟩, ?_⟩
    exact ((y8.out.setCell (Nat.le_refl _) _).setCell (Nat.le_refl _) _).setCell (Nat.le_refl _) _
  · have hO : (ordN (Nat.gcd (dv D.data.toList) (dv B.data.toList)) 1 != 0) = true := by
      have hG' : ¬ Nat.gcd (dv D.data.toList) (dv B.data.toList) = 1 := hG
      unfold ordN
      split
      · rfl
      · split
        · rfl
        · omega
    have X0 := hid (show xc = 3 from by rw [← HXC.out, if_neg hG])
    obtain ⟨t, ht⟩ : ∃ t, ordN (Nat.gcd (dv D.data.toList) (dv B.data.toList)) 1 = t := ⟨_, rfl⟩
    rw [ht] at hO ⊢
    clear ht hG
    go_wp2_with fail
    obtain ⟨s1, s2⟩ := set3 x8.out false none none 0 0 0 0
    have f0 := s2.cell 0
    have f1 := s2.cell 1
    have f2 := s2.cell 2
    simp at f0 f1 f2
    refine bodyPost_ret (v := .tuple #[.agg #[.bool false, .slice none 0 0, .slice none 0 0], .int .i64 3]) (by simp [results, Tryz.results65, go_sem, f0, f1, f2]) rfl ⟨by rw [X0.out]; exact RetR.err (by decide), ?_⟩
    exact ((y8.out.setCell (Nat.le_refl _) _).setCell (Nat.le_refl _) _).setCell (Nat.le_refl _) _

set_option maxRecDepth 100000 in
set_option maxHeartbeats 1000000 in
theorem rd_int (w : World) (s W B D : ByteArray) (M fb : Bool) (k : Nat) (hs : s.size ≤ 1000000) (HC : CutR s W B D false M true fb k)
    (hl1 : ¬ 4000 < D.size) (hd1 : allDig D.data.toList) :
    Calls Tryz.prog 65 #[.string s] w fun e w' => RetR 0 M (bN D) 1 e w' ∧ Below w.heap.size w w' := by
  have HK := hid HC
  have kle := HC.kle
  have hlt := HC.has
  have cw := hid HC.cutW
  have cb := hid HC.cutB
  clear HC
  have t0 := hid (Blk.new w #[.bool false, .slice none 0 0, .slice none 0 0] 89)
  have t1 := hid ((Below.refl w.heap.size w).alloc (Nat.le_refl _) (.cells #[.bool false, .slice none 0 0, .slice none 0 0] 89))
  have wk : IntKind.i64.wrap ((k : Int) + 1) = (k : Int) + 1 := by rw [IntWalk.i64_in _ ⟨by omega, by omega⟩]
  have q0 := hlt.symm
  clear hlt
  have q1 : decide ((4000 : Int) < (D.size : Int)) = false := by simp; omega
  have L1 := hid (bN_limbs hd1 hl1)
  have L2 : Hid ((limbs 1).length ≤ 1000000) := by show _ ≤ _; rw [limbs_one]; decide
  have P1 := fun W => hid (r1_Read W D hd1 (by omega))
  have P2 : ∀ W, Hid (Calls Tryz.prog 55 #[.string ⟨#[49]⟩] W fun e w' => RetN .i64 1 e w' ∧ Below W.heap.size W w') := fun W => hid (r1_Read W ⟨#[49]⟩ (by intro b hb; simp at hb; subst hb; rfl) (Nat.succ_le_succ (Nat.zero_le _)))
  have hO : ordN (Nat.gcd (dv D.data.toList) 1) 1 = 0 := by rw [Nat.gcd_one_right]; exact ordN_eq
  have HO := hid hO
  clear hd1 hl1 hO
  go_enter Tryz.func65, Tryz.ntmps65
  go_wp2_with (first
    | (go_at_call 117; refine (HK.out.sl _).mono ?_; rintro e w1 ⟨rfl, rfl⟩)
    | (go_at_call 112; rw [cw.out]; refine (HK.out.int _).mono ?_; rintro e w2 ⟨rfl, rfl⟩)
    | (go_at_call 118; (first | rw [cb.out trivial] | rw [cb.out rfl]); refine (HK.out.form _).mono ?_; rintro e w3 ⟨rfl, rfl⟩)
    | fail)
  refine (P1 _).out.mono ?_; rintro e w4 ⟨⟨v4, rfl, hv4⟩, hb4⟩
  have x4 := hid (t0.out.call hb4)
  have y4 := hid (bnext t1.out hb4)
  have N4 := hid hv4
  clear hb4 hv4
  obtain ⟨a4, c4, rfl, _⟩ := N4.out.openI
  obtain ⟨k1, hk1⟩ : ∃ k, (limbs (dv D.data.toList)).length = k := ⟨_, rfl⟩
  rw [hk1] at N4 ⊢
  clear P1
  go_wp2_with fail
  refine (P2 _).out.mono ?_; rintro e w5 ⟨⟨v5, rfl, hv5⟩, hb5⟩
  have x5 := hid (x4.out.call hb5)
  have y5 := hid (bnext y4.out hb5)
  have N5 := hid (N4.out.call hb5)
  have D5 := hid hv5
  clear hb5 hv5
  obtain ⟨a5, c5, rfl, _⟩ := D5.out.openI
  obtain ⟨k2, hk2⟩ : ∃ k, (limbs 1).length = k := ⟨_, rfl⟩
  rw [hk2] at D5 ⊢
  clear P2
  go_wp2_with fail
  have z5 := hid (Blk.new w5 #[.bool M, .slice a4 k1 c4, .slice a5 k2 c5] 89)
  have b5 := hid ((Below.refl w5.heap.size w5).alloc (Nat.le_refl _) (.cells #[.bool M, .slice a4 k1 c4, .slice a5 k2 c5] 89))
  have g0 := z5.out.cell 0
  have g1 := z5.out.cell 1
  have g2 := z5.out.cell 2
  simp at g0 g1 g2
  go_wp2_with fail
  refine (r1_Common _ _ _ _ _ (N5.out.call b5.out) (D5.out.call b5.out) L1.out L2.out).mono ?_
  rintro e w6 ⟨⟨v6, rfl, hv6⟩, hb6⟩
  have z6 := hid (z5.out.call hb6)
  have x6 := hid ((x5.out.call b5.out).call hb6)
  have y6 := hid (bnext (bnext y5.out b5.out) hb6)
  have N6 := hid ((N5.out.call b5.out).call hb6)
  have D6 := hid ((D5.out.call b5.out).call hb6)
  have G6 := hid hv6
  clear hb6 hv6 g0 g1 g2
  go_wp2_with fail
  refine (r2_one _).mono ?_
  rintro e w7 ⟨⟨v7, rfl, hv7⟩, hb7⟩
  have z7 := hid (z6.out.call hb7)
  have x7 := hid (x6.out.call hb7)
  have y7 := hid (bnext y6.out hb7)
  have N7 := hid (N6.out.call hb7)
  have D7 := hid (D6.out.call hb7)
  have G7 := hid (G6.out.call hb7)
  have O7 := hid hv7
  clear hb7 hv7
  go_wp2_with fail
  refine (r1_Order _ _ _ _ _ G7.out O7.out).mono ?_
  rintro e w8 ⟨rfl, hb8⟩
  have z8 := hid (z7.out.call hb8)
  have x8 := hid (x7.out.call hb8)
  have y8 := hid (bnext y7.out hb8)
  have N8 := hid (N7.out.call hb8)
  have D8 := hid (D7.out.call hb8)
  clear hb8
  have d0 := x8.out.cell 0
  have d1 := x8.out.cell 1
  have d2 := x8.out.cell 2
  have e0 := x8.out.free 0
  have e1 := x8.out.free 1
  have e2 := x8.out.free 2
  have g0 := z8.out.cell 0
  have g1 := z8.out.cell 1
  have g2 := z8.out.cell 2
  simp at d0 d1 d2 g0 g1 g2
  
  rw [HO.out]
  go_wp2_with fail
  obtain ⟨s1, s2⟩ := set3 x8.out M a4 a5 k1 c4 k2 c5
  have f0 := s2.cell 0
  have f1 := s2.cell 1
  have f2 := s2.cell 2
  simp at f0 f1 f2
  refine bodyPost_ret (v := .tuple #[.agg #[.bool M, .slice a4 k1 c4, .slice a5 k2 c5], .int .i64 0]) (by simp [results, Tryz.results65, go_sem, f0, f1, f2]) rfl ⟨⟨_, rfl, fun _ => ⟨_, _, rfl, s1 _ _ _ N8.out, s1 _ _ _ D8.out⟩, fun h => absurd rfl h⟩, ?_⟩
  exact ((y8.out.setCell (Nat.le_refl _) _).setCell (Nat.le_refl _) _).setCell (Nat.le_refl _) _

theorem r2_Read0 (w : World) (s : ByteArray) (hs : s.size ≤ 1000000) :
    Calls Tryz.prog 65 #[.string s] w fun e w' => RetR (qE s) (iM (cW s)) (bN (iD (cW s))) (bN (qD s)) e w' ∧ Below w.heap.size w w' := by
  have HC := cutR_of s hs
  by_cases hq : qB s = true
  · have hi := qB_whole hq
    rw [hi] at HC
    have hdD := fB_dig (iB_form hi)
    have hcS : cS s = false ∨ (cS s = true ∧ ¬ iD (cW s) = ⟨#[48]⟩ ∧ ¬ cB s = ⟨#[48]⟩ ∧ ¬ cB s = ⟨#[49]⟩ ∧ fB (cB s) = true) := by
      have hq' := hq
      unfold qB at hq'
      simp only [Bool.and_eq_true, Bool.or_eq_true, Bool.not_eq_true', decide_eq_true_eq] at hq'
      rcases hq'.2 with h | h
      · exact .inl h
      · cases hc : cS s
        · exact .inl rfl
        · exact .inr ⟨rfl, h.1.1.1, h.1.2, h.2, h.1.1.2⟩
    by_cases hl : qL s = true
    · have e : qE s = 5 := by simp [qE, hq, hl]
      rw [e]
      unfold qL at hl
      simp only [Bool.or_eq_true, decide_eq_true_eq] at hl
      refine (rd_long w s _ _ _ _ _ _ _ hs HC hcS ?_).mono ?_
      · by_cases h4 : 4000 < (iD (cW s)).size
        · exact .inl h4
        · refine .inr ⟨h4, ?_⟩
          rcases hcS with hc | ⟨hc, -⟩
          · rw [qD_false hc] at hl
            exact absurd (hl.resolve_left h4) (by decide)
          · rw [qD_true hc] at hl
            exact ⟨hc, hl.resolve_left h4⟩
      · rintro e w' ⟨rfl, hb⟩
        exact ⟨RetR.err (by decide), hb⟩
    · have hl' : qL s = false := by simpa using hl
      have hl1 : ¬ 4000 < (iD (cW s)).size ∧ ¬ 4000 < (qD s).size := by
        unfold qL at hl'
        simpa using hl'
      rcases hcS with hc | ⟨hc, h1, h2, h3, h4⟩
      · rw [hc] at HC
        have e : qE s = 0 := by simp [qE, hq, hl', qG, hc]
        rw [e, qD_false hc]
        exact rd_int w s _ _ _ _ _ _ hs HC hl1.1 hdD
      · rw [hc, h4] at HC
        have hl2 := hl1.2
        rw [qD_true hc] at hl2
        have e : qE s = if Nat.gcd (bN (iD (cW s))) (bN (cB s)) = 1 then 0 else 3 := by
          simp only [qE, hq, hl', qG, hc, qD_true hc]
          by_cases hg : Nat.gcd (bN (iD (cW s))) (bN (cB s)) = 1 <;> simp [hg]
        rw [e, qD_true hc]
        exact rd_frac w s _ _ _ _ _ hs HC h1 h2 h3 hl1.1 hl2 hdD (fB_dig h4)
  · have hq' : qB s = false := by simpa using hq
    have e : qE s = 3 := by simp [qE, hq']
    rw [e]
    refine (rd_bad w s _ _ _ _ _ _ _ _ hs HC hq').mono ?_
    rintro e w' ⟨rfl, hb⟩
    exact ⟨RetR.err (by decide), hb⟩

/-- Read gives the number of a right text, and the error. -/
def RetQE (s : ByteArray) (e : Ending) (w' : World) : Prop := ∃ v, e = .returned (.tuple #[v, .int .i64 (qE s)]) ∧ (qE s = 0 → IsQ .i64 w' v (vQ s)) ∧ (qE s ≠ 0 → v = .agg #[.bool false, .slice none 0 0, .slice none 0 0])
theorem r2_Read (w : World) (s : ByteArray) (hs : s.size ≤ 1000000) :
    Calls Tryz.prog 65 #[.string s] w fun e w' => RetQE s e w' ∧ Below w.heap.size w w' := by
  refine (r2_Read0 w s hs).mono ?_
  rintro e w' ⟨⟨v, rfl, h1, h2⟩, hb⟩
  refine ⟨⟨v, rfl, fun h => ?_, h2⟩, hb⟩
  obtain ⟨N, D, rfl, hN, hD⟩ := h1 h
  obtain ⟨e1, e2, e3⟩ := vQ_ok h
  exact ⟨N, D, by rw [e1], by rw [e2]; exact hN, by rw [e3]; exact hD⟩
end Go.Proofs.YtjgcjjbnnlnilaaGreatDoor

/- Walks: the reference's Over, Negative. -/
namespace Go.Proofs.YtjgcjjbnnlnilaaGreatDoor
open Go.RowKit
set_option linter.unusedVariables false

theorem r2_Over (w : World) (v : Value) (q : Rat) (h : IsQ .i64 w v q) (h0 : q ≠ 0) :
    Calls Tryz.prog 66 #[v] w fun e w' => RetQ .i64 q⁻¹ e w' ∧ Below w.heap.size w w' := by
  obtain ⟨N, D, rfl, hn, hd⟩ := h.ex
  obtain ⟨m, hm⟩ : ∃ m, decide (q.num < 0) = m := ⟨_, rfl⟩
  have HN := hid hn; have HD := hid hd; have HM := hid hm; have H0 := hid h0
  rw [hm]
  obtain ⟨a1, c1, rfl, _⟩ := hn.openI
  obtain ⟨a2, c2, rfl, _⟩ := hd.openI
  clear hn hd hm h0 h
  go_enter Tryz.func66, Tryz.ntmps66
  go_wp2_with fail
  obtain ⟨p1, p2, p3⟩ := inv_num H0.out
  have B := ((Below.refl w.heap.size w).alloc (Nat.le_refl _) (.cells #[.bool m, .slice a1 (limbs q.num.natAbs).length c1, .slice a2 (limbs q.den).length c2] 89)).alloc (by simp) (.cells #[.bool m, .slice a2 (limbs q.den).length c2, .slice a1 (limbs q.num.natAbs).length c1] 89)
  refine bodyPost_ret (v := .agg #[.bool m, .slice a2 (limbs q.den).length c2, .slice a1 (limbs q.num.natAbs).length c1]) (by simp [results, Tryz.results66, go_sem]) rfl ⟨⟨_, rfl, ⟨_, _, rfl.trans ?_, by rw [p2]; exact HD.out.call B, by rw [p3]; exact HN.out.call B⟩⟩, B⟩
  rw [p1, HM.out]

theorem neg_parts {q : Rat} {m : Bool} (hm : decide (q.num < 0) = m) : decide ((-q).num < 0) = (!m && decide (0 < q.num.natAbs)) ∧ (-q).num.natAbs = q.num.natAbs ∧ (-q).den = q.den := by
  refine ⟨?_, by rw [Rat.neg_num, Int.natAbs_neg], Rat.neg_den q⟩
  rw [Rat.neg_num, ← hm, Bool.eq_iff_iff]
  simp only [Bool.and_eq_true, Bool.not_eq_true', decide_eq_true_eq, decide_eq_false_iff_not]
  omega

theorem r2_Negative (w : World) (v : Value) (q : Rat) (h : IsQ .i64 w v q) :
    Calls Tryz.prog 73 #[v] w fun e w' => RetQ .i64 (-q) e w' ∧ Below w.heap.size w w' := by
  obtain ⟨N, D, rfl, hn, hd⟩ := h.ex
  obtain ⟨m, hm⟩ : ∃ m, decide (q.num < 0) = m := ⟨_, rfl⟩
  have HN := hid hn; have HD := hid hd; have HP := hid (neg_parts hm)
  rw [hm]
  obtain ⟨a1, c1, rfl, _⟩ := hn.openI
  obtain ⟨a2, c2, rfl, _⟩ := hd.openI
  clear hn hd hm h
  obtain ⟨l, hl⟩ : ∃ l, (limbs q.num.natAbs).length = l := ⟨_, rfl⟩
  have hz : decide (0 < l) = decide (0 < q.num.natAbs) := by
    have h1 : l = 0 ↔ q.num.natAbs = 0 := by rw [← hl, List.length_eq_zero_iff, limbs_nil]
    exact decide_eq_decide.2 (by omega)
  have HZ := hid hz; have HL := hid hl
  rw [hl]
  clear hz hl
  go_enter Tryz.func73, Tryz.ntmps73
  go_wp2_with fail
  all_goals
    obtain ⟨p1, p2, p3⟩ := HP.out
    rw [← HZ.out] at p1
    refine bodyPost_ret (v := .agg #[_, .slice a1 l c1, .slice a2 (limbs q.den).length c2]) (by simp [results, Tryz.results73, go_sem]; rfl) rfl ⟨⟨_, rfl, ⟨.slice a1 l c1, .slice a2 (limbs q.den).length c2, ?_, ?_, ?_⟩⟩, ?_⟩
    · rw [p1]; clear HP HZ HL HN HD; simp_all
    · have hh := HN.out
      rw [HL.out] at hh
      rw [p2]; exact hh.call (((Below.refl w.heap.size w).alloc (Nat.le_refl _) _).alloc (by simp) _)
    · rw [p3]; exact HD.out.call (((Below.refl w.heap.size w).alloc (Nat.le_refl _) _).alloc (by simp) _)
    · exact (((Below.refl w.heap.size w).alloc (Nat.le_refl _) _).alloc (by simp) _)
end Go.Proofs.YtjgcjjbnnlnilaaGreatDoor
