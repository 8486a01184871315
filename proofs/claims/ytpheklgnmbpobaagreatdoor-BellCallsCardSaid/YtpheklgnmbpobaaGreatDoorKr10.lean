/- Texts that the proof rests on, merged: Be4, Be5, R2r, R2o, R4s, Pn6, R7a, R7b, Rp11, Rp12, Rp13, PlM, Rp14. -/
import Derived.Test.YtpheklgnmbpobaaGreatDoorKr9
import Derived.Deep.DeepCutAuto
import Derived.Sort.Walk0
import Derived.WalkLawsBesides
import Derived.IntWalk
import Derived.Deep.RegionHeld3
import Derived.Deep.AppendLies
namespace Go.Proofs.YtpheklgnmbpobaaGreatDoor
open Go.RowKit Go.Shelf
open Go.Lib (decDigits nDigits)
set_option linter.unusedVariables false
set_option linter.unusedSimpArgs false
set_option maxRecDepth 100000 in
set_option maxHeartbeats 8000000 in
theorem be_counts (w : World) (q : ByteArray) (m n : Nat) (c1 : q.size ≤ 20) (hn : n ≤ 8) (h0 : beE q m = 0) (hL : LayB w) :
    Calls Tryz.prog 5 #[.string q, .int .i64 (m : Nat), .int .i64 (n : Nat)] w fun e w' => e = .returned (.bool true) ∧ Below w.heap.size w w' := by
  have HLV := hid (w_lives w hL.l)
  have HL := hid hL
  have t0 : decide ((20 : Int) < (q.size : Int)) = false := decide_eq_false (by omega)
  have t1 : decide ((n : Int) < 0) = false := by simp
  have t2 : decide ((8 : Int) < (n : Int)) = false := decide_eq_false (by omega)
  have t3 : decide ((m : Int) < 0) = false := by simp
  obtain ⟨m', e', hm16, hlV, -⟩ := beV_len h0
  obtain rfl : m = m' := by omega
  have t4 : decide ((16 : Int) < (m : Int)) = false := decide_eq_false (by omega)
  have hn2 : n ≤ 256 := by omega
  have hS : 0 < (beV q m).sum := by
    have := wsE_pos (beV_wsE h0)
    rwa [(beV_W h0).2] at this
  have P1 := fun V hV => hid (b_Law V q m n (by omega) hV)
  have P2 := fun V hV => hid (b_Late V q m n (by omega) hV)
  rw [bl_E h0 hn2] at P1 P2
  rw [bt_is h0 hn2] at P2
  have P3 := fun (x : List UInt8) (hx : x ∈ allW n) V hV => hid (b_Draw V q m (tb x) (by omega) (by rw [tb_size, allW_len hx]; omega) hV)
  have HED : Hid (∀ x ∈ allW n, bdE q m (tb x) = 0 ∧ bd3 q m (tb x) = bsh m (pdr (pkF (beV q m)) 0 1 x)) := fun x hx => by
    have e1 : bdE q m (tb x) = 0 := by rw [(beV_drE h0 _).2]; exact bit_words hx (by omega)
    exact ⟨e1, by unfold bd3; rw [if_pos e1, tb_list]⟩
  have HFIT := hid (fun l => draw_fit hS l)
  have HLH := hid (fun (i : Nat) hi hc => bl_has h0 hn2 (i := i) hi hc)
  have HLL := hid (bl_last h0 hn2)
  have HST := hid (fun (i : Nat) p r hp hr => bl_strict h0 hn2 (i := i) (p := p) (r := r) hp hr)
  have HBL := hid (bl_len h0 hn2)
  have HCA := hid (fun (i : Nat) hi => cntL_all hS n (i := i) hi)
  have HNA := hid (noneL_all hS n)
  have HCF : Hid (∀ i, cnt (beV q m) (2 ^ n) i ≤ 2 ^ n) := fun i => Nat.le_trans (cnt_le _ _ i hS) (Nat.sub_le _ _)
  obtain ⟨ws, hws⟩ : ∃ ws, beV q m = ws := ⟨_, rfl⟩
  rw [hws] at P2 HED HFIT HLL HBL hlV HNA
  simp only [hws] at HLH HCA HCF
  obtain ⟨N, hN⟩ : ∃ N, 2 * m + 1 = N := ⟨_, rfl⟩
  rw [hN] at P2 hlV HLL HBL
  simp only [hN] at HLH
  rw [hlV] at HNA
  simp only [hlV] at HFIT HCA
  have PA := fun V => hid (r3_All V n (by omega))
  have hp : 2 ^ n ≤ 256 := Nat.le_trans (Nat.pow_le_pow_right (by omega) hn) (by decide)
  have PSH := fun V k (hk : k ≤ 1000000) => hid (r7_Share V k n hk (by omega))
  have HAL : Hid ((allW n).length = 2 ^ n) := allW_length n
  obtain ⟨M, hM⟩ : ∃ M, 2 ^ n = M := ⟨_, rfl⟩
  rw [hM] at hp P2 HLL HBL HNA HAL
  simp only [hM] at HLH HCA PSH HCF
  obtain ⟨LT, hLT⟩ : ∃ s, shB (M - lwS ws M N) M = s := ⟨_, rfl⟩
  have HLT := hid hLT
  rw [hLT] at P2
  obtain ⟨BL, hBL⟩ : ∃ L, blR q m n = L := ⟨_, rfl⟩
  rw [hBL] at P1 HLL HBL
  simp only [hBL] at HLH HST
  have hmk := make_ints N (by omega)
  have w1 : IntKind.i64.wrap (2 * (m : Int)) = 2 * (m : Int) := by rw [IntWalk.i64_in _ ⟨by omega, by omega⟩]
  have w2 : IntKind.i64.wrap (2 * (m : Int) + 1) = (N : Int) := by rw [IntWalk.i64_in _ ⟨by omega, by omega⟩]; omega
  have wn : IntKind.i64.wrap (-(m : Int)) = -(m : Int) := by rw [IntWalk.i64_in _ ⟨by omega, by omega⟩]
  have HN := hid hN; have HM16 := hid hm16; have HP := hid hp
  have PI := fun V k (h1 : -1000000000 ≤ k) (h2 : k ≤ 1000000000) => hid (r2_IntZ V k h1 h2)
  have PH := fun V v x1 x2 hv => hid (k_HasM V v BL x1 x2 hv)
  clear hL c1 hn h0 e' hm16 hlV hn2 hS hws hN hM hLT hBL hp
  go_enter Tryz.func5, Tryz.ntmps5
  go_wp2_with fail
  refine HLV.out.mono ?_; rintro e w1' ⟨rfl, hb1⟩
  have y1 := hid hb1; clear hb1
  go_wp2_with fail
  refine (P1 _ (HL.out.call y1.out)).out.mono ?_; rintro e w2' ⟨⟨u, rfl, hu⟩, hb2⟩
  have y2 := hid (bnext y1.out hb2)
  have U2 := hid hu
  obtain ⟨a2, k2, rfl, u1, u2, -⟩ := hu.ex
  obtain ⟨D, hD⟩ : ∃ D, BL.length = D := ⟨_, rfl⟩
  rw [hD] at U2 u1 ⊢
  have HD := hid hD
  clear hb2 hu hD
  go_wp2_with fail
  refine (P2 _ (HL.out.call y2.out).l).out.mono ?_; rintro e w3 ⟨rfl, hb3⟩
  have y3 := hid (bnext y2.out hb3)
  have U3 := hid (U2.out.call hb3)
  clear hb3
  go_wp2_with fail
  refine (PA _).out.mono ?_; rintro e w4 ⟨⟨v4, rfl, hv4⟩, hb4⟩
  have y4 := hid (bnext y3.out hb4)
  have U4 := hid (U3.out.call hb4)
  have V4 := hid hv4
  obtain ⟨a4, k4, rfl, s1, s2, -⟩ := hv4.openS
  rw [List.length_map, HAL.out] at V4 s1 ⊢
  clear hb4 hv4
  go_wp2_with fail
  have X4 := Blk.new w4 (madeCells #[.int .i64 0] N) 3
  have B4 := hid ((Below.refl w4.heap.size w4).alloc (Nat.le_refl _) (.cells (madeCells #[.int .i64 0] N) 3))
  rw [made_ints] at X4 B4 ⊢
  have X5 := hid (show Arr .i64 3 _ w4.heap.size (cntL (pkF ws) N ((allW n).take 0)) by rw [List.take_zero, cntL_nil]; exact X4)
  have U5 := hid (U4.out.call B4.out)
  have V5 := hid (V4.out.call B4.out)
  have y5 := hid (bnext y4.out B4.out)
  obtain ⟨w5, hw5⟩ : ∃ w5, w4.alloc (.cells (ints .i64 (List.replicate N 0)).toArray 3) = w5 := ⟨_, rfl⟩
  obtain ⟨g, hgg⟩ : ∃ g, w4.heap.size = g := ⟨_, rfl⟩
  rw [hw5] at X5 U5 V5 y5 ⊢
  rw [hgg] at X5 ⊢
  have G1 : Hid (w4.heap.size ≤ g) := by rw [← hgg]; exact Nat.le_refl _
  have W5 : Hid (Below g w4 w5) := by rw [← hgg, ← hw5]; exact (Below.refl w4.heap.size w4).alloc (Nat.le_refl _) _
  clear X4 B4 hw5 hgg
  go_loopw [14, 15] (fun s14 s15 wr => ∃ j : Nat, s14 = .int .i64 (noneL (pkF ws) ((allW n).take j) : Nat) ∧ s15 = .int .i64 (j : Nat) ∧ j ≤ M ∧ Hid (Arr .i64 3 wr g (cntL (pkF ws) N ((allW n).take j))) ∧ Hid (Below g w4 wr)) (fun s14 s15 wr => M - (intOf s15).toNat)
  case atStart => exact ⟨0, rfl, rfl, Nat.zero_le _, X5, W5⟩
  case round =>
    obtain ⟨j, rfl, rfl, hj, hX, hB⟩ := hrel
    have hB4 := hid (hB.out.mono G1.out)
    have yr := hid (bnext y4.out hB4.out)
    have hnle := noneL_le (pkF ws) ((allW n).take j)
    rw [List.length_take] at hnle
    have hp256 := HP.out
    by_cases hlt : j < M
    · obtain ⟨x, hx⟩ : ∃ x, (allW n)[j]? = some x := ⟨_, List.getElem?_eq_getElem (by rw [HAL.out]; exact hlt)⟩
      have hxm := List.mem_of_getElem? hx
      obtain ⟨g', o, rfl, hg', hc⟩ := V4.out.at (strs_get (show ((allW n).map tb)[j]? = some (tb x) by rw [List.getElem?_map, hx]; rfl))
      have hc2 := (hB4.out.cell (p := ⟨g', o + j, none⟩) hg').trans hc
      have HT : Hid ((allW n).take (j + 1) = (allW n).take j ++ [x]) := by show (allW n).take (j + 1) = _; rw [List.take_add_one, hx]; rfl
      have PD := P3 x hxm _ (HL.out.call yr.out).l
      obtain ⟨e1, e2⟩ := HED.out x hxm
      rw [e1, e2] at PD
      obtain ⟨f1, f2⟩ := HFIT.out x
      obtain ⟨X, hXX⟩ : ∃ X, tb x = X := ⟨_, rfl⟩
      rw [hXX] at PD hc2
      obtain ⟨n0, hn0⟩ : ∃ n0, noneL (pkF ws) ((allW n).take j) = n0 := ⟨_, rfl⟩
      have HN0 := hid hn0
      rw [hn0] at hnle ⊢
      have b1 : (0 : Int) ≤ (j : Int) := by omega
      have b2 : (j : Int) < (M : Int) := by omega
      have wi : IntKind.i64.wrap ((j : Int) + 1) = ((j + 1 : Nat) : Int) := by rw [IntWalk.i64_in _ ⟨by omega, by omega⟩]; omega
      have wn' : IntKind.i64.wrap ((n0 : Int) + 1) = ((n0 + 1 : Nat) : Int) := by rw [IntWalk.i64_in _ ⟨by omega, by omega⟩]; omega
      obtain ⟨r, hr⟩ : ∃ r, pdr (pkF ws) 0 1 x = r := ⟨_, rfl⟩
      rw [hr] at PD f1 f2
      obtain ⟨d, vv, uu⟩ := r
      have HR := hid hr
      simp only [bV, bsh] at PD
      have HJ := hid hlt
      clear hx hxm hc hg' e1 e2 hXX hn0 hr hp256
      cases d
      · have fv : vv = 0 := f2 rfl
        subst fv
        simp only [Bool.false_eq_true, if_false] at PD
        have h6 : Hid (cntL (pkF ws) N ((allW n).take (j + 1)) = cntL (pkF ws) N ((allW n).take j)) := by show _ = _; rw [HT.out]; exact cntL_late (by rw [HR.out])
        have h7 : Hid (noneL (pkF ws) ((allW n).take (j + 1)) = n0 + 1) := by show _ = _; rw [HT.out, noneL_late (by rw [HR.out]), HN0.out]
        have q6 : decide ((0 : Int) < -(m : Int)) = false := decide_eq_false (by omega)
        have q7 : decide ((m : Int) < 0) = false := decide_eq_false (by omega)
        clear f1 f2
        go_wp2_with fail
        refine PD.out.mono ?_; rintro e w6 ⟨rfl, hb6⟩
        have X6 := hid ((hX.out.call hb6).call ((Below.refl _ _).alloc (Nat.le_refl _) (.cells #[.bool false, .int .i64 0, .int .i64 (uu : Nat)] 33)))
        have B6 := hid (hB.out.trans ((hb6.mono (by have := hX.out.lt; omega)).alloc (by have := hX.out.lt; have := hb6.size; omega) (.cells #[.bool false, .int .i64 0, .int .i64 (uu : Nat)] 33)))
        clear hb6
        go_wp2_with fail
        go_roundw
        case rel => exact ⟨j + 1, by rw [h7.out]; go_num, by go_num, by omega, by rw [h6.out]; exact X6, B6⟩
        case measure => simp [intOf] <;> (have := HJ.out; omega)
      · have fv : vv < N := f1 rfl
        simp only [if_true] at PD
        have hN1 := HN.out
        have hm16 := HM16.out
        obtain ⟨z, hz⟩ : ∃ z : Int, (vv : Int) - (m : Int) = z := ⟨_, rfl⟩
        rw [hz] at PD
        have q6 : decide (z < -(m : Int)) = false := decide_eq_false (by omega)
        have q7 : decide ((m : Int) < z) = false := decide_eq_false (by omega)
        have wz : IntKind.i64.wrap (z + (m : Int)) = (vv : Int) := by rw [IntWalk.i64_in _ ⟨by omega, by omega⟩]; omega
        obtain ⟨k0, hk0⟩ : ∃ k0, ((allW n).take j).countP (drawsI (pkF ws) vv) = k0 := ⟨_, rfl⟩
        have hk1 : k0 ≤ 256 := by
          have := List.countP_le_length (p := drawsI (pkF ws) vv) (l := (allW n).take j)
          rw [List.length_take, hk0] at this
          have := HP.out
          omega
        have hgt := cntL_get (f := pkF ws) (W := (allW n).take j) fv
        rw [hk0] at hgt
        have h6 : Hid (cntL (pkF ws) N ((allW n).take (j + 1)) = (cntL (pkF ws) N ((allW n).take j)).set vv (k0 + 1)) := by show _ = _; rw [HT.out, cntL_done HR.out fv, hk0]
        have h7 : Hid (noneL (pkF ws) ((allW n).take (j + 1)) = n0) := by show _ = _; rw [HT.out, noneL_done (by rw [HR.out]), HN0.out]
        have HGT := hid hgt
        have wk : IntKind.i64.wrap ((k0 : Int) + 1) = ((k0 + 1 : Nat) : Int) := by rw [IntWalk.i64_in _ ⟨by omega, by omega⟩]; omega
        have b3 : (0 : Int) ≤ (vv : Int) := by omega
        have b4 : (vv : Int) < (N : Int) := by omega
        clear f1 f2 hk0 hgt hz hN1 hm16 fv hk1
        go_wp2_with fail
        refine PD.out.mono ?_; rintro e w6 ⟨rfl, hb6⟩
        have X6 := hid ((hX.out.call hb6).call ((Below.refl _ _).alloc (Nat.le_refl _) (.cells #[.bool true, .int .i64 z, .int .i64 (uu : Nat)] 33)))
        have B6 := hid (hB.out.trans ((hb6.mono (by have := hX.out.lt; omega)).alloc (by have := hX.out.lt; have := hb6.size; omega) (.cells #[.bool true, .int .i64 z, .int .i64 (uu : Nat)] 33)))
        have m1 := X6.out.cell HGT.out
        have m2 := X6.out.free vv
        have X7 := hid (X6.out.set vv (k0 + 1))
        have B7 := hid (below_set B6.out (g := g) (i := vv) (Nat.le_refl _) (.int .i64 ((k0 + 1 : Nat) : Int)))
        clear hb6
        go_wp2_with fail
        go_roundw
        case rel => exact ⟨j + 1, by rw [h7.out], by go_num, by have := HJ.out; omega, by rw [h6.out]; exact X7, B7⟩
        case measure => simp [intOf] <;> (have := HJ.out; omega)
    · obtain rfl : j = M := by omega
      have q1 : decide ((j : Int) < (j : Int)) = false := by simp
      have hT : (allW n).take j = allW n := List.take_of_length_le (by rw [HAL.out]; exact Nat.le_refl _)
      rw [hT] at hX hnle ⊢
      rw [HNA.out] at hnle ⊢
      obtain ⟨K, hK⟩ : ∃ K, j - lwS ws j N = K := ⟨_, rfl⟩
      have HK := hid hK
      rw [hK] at hnle ⊢
      have HLT2 := hid (show shB K j = LT by rw [← hK]; exact HLT.out)
      have hk1 : K ≤ 256 := by omega
      clear hlt hT hK hnle
      go_wp2_with fail
      obtain ⟨wq, hwq⟩ : ∃ wq : World, wq = wr := ⟨_, rfl⟩
      subst hwq
      go_loopw [18, 19] (fun s18 s19 wr => ∃ i : Nat, s18 = .int .i64 ((lawL ws j i).length : Nat) ∧ s19 = .int .i64 (i : Nat) ∧ i ≤ N ∧ Hid (Below wq.heap.size wq wr)) (fun s18 s19 wr => N - (intOf s19).toNat)
      case atStart => exact ⟨0, rfl, rfl, Nat.zero_le _, Below.refl _ _⟩
      case round =>
        obtain ⟨i, rfl, rfl, hi, hB2⟩ := hrel
        have zr := hid (bnext yr.out hB2.out)
        have hll := lawL_length ws j i
        have hN1 := HN.out
        have hm16 := HM16.out
        by_cases hlt : i < N
        · have hget := HCA.out i hlt
          have m1 := (hX.out.call hB2.out).cell hget
          have hcb : cnt ws j i ≤ j := HCF.out i
          obtain ⟨ls, ls2⟩ := lawL_step ws j i
          have hlh := fun h => HLH.out i hlt h
          obtain ⟨k0, hk0⟩ : ∃ k0, cnt ws j i = k0 := ⟨_, rfl⟩
          rw [hk0] at m1 hcb ls ls2 hlh hget
          obtain ⟨F, hF⟩ : ∃ F, (lawL ws j i).length = F := ⟨_, rfl⟩
          have HF := hid hF
          rw [hF] at hll ⊢
          have b1 : (0 : Int) ≤ (i : Int) := by omega
          have b2 : (i : Int) < (N : Int) := by omega
          have wi : IntKind.i64.wrap ((i : Int) + 1) = ((i + 1 : Nat) : Int) := by rw [IntWalk.i64_in _ ⟨by omega, by omega⟩]; omega
          have wf : IntKind.i64.wrap ((F : Int) + 1) = ((F + 1 : Nat) : Int) := by rw [IntWalk.i64_in _ ⟨by omega, by omega⟩]; omega
          have HI := hid hlt
          by_cases h0 : k0 = 0
          · have q5 : decide ((0 : Int) < (k0 : Int)) = false := by simp [h0]
            have q6 : decide (0 < k0) = false := by simp [h0]
            have h8 := hid (ls h0)
            clear hF hk0 hget ls ls2 h0 hlh hN1 hm16 hcb hll
            go_wp2_with fail
            go_roundw
            case rel => exact ⟨i + 1, by rw [h8.out, HF.out], by go_num, by omega, hB2⟩
            case measure => simp [intOf] <;> (have := HI.out; omega)
          · have q5 : decide ((0 : Int) < (k0 : Int)) = true := by simp; omega
            have q6 : decide (0 < k0) = true := by simp; omega
            have h8 := hid (ls2 h0)
            have h9 := hlh h0
            have hp256 := HP.out
            have PIi := fun V => PI V ((i : Int) - (m : Int)) (by omega) (by omega)
            have PS := fun V => PSH V k0 (by omega)
            have wk : IntKind.i64.wrap ((i : Int) - (m : Int)) = (i : Int) - (m : Int) := by rw [IntWalk.i64_in _ ⟨by omega, by omega⟩]
            obtain ⟨I0, hI0⟩ : ∃ s, zB ((i : Int) - (m : Int)) = s := ⟨_, rfl⟩
            obtain ⟨S0, hS0⟩ : ∃ s, shB k0 j = s := ⟨_, rfl⟩
            rw [hI0, hS0] at h9
            have PHi := fun V v hv => PH V v I0 S0 hv
            rw [h9] at PHi
            rw [hI0] at PIi
            rw [hS0] at PS
            have KK : Hid (∀ w', Below wr.heap.size wr w' → w'.cell? ⟨g, i, none⟩ = some (.int .i64 (k0 : Nat))) := fun w' hb => ((hX.out.call hB2.out).call hb).cell hget
            clear hF hk0 ls ls2 h0 hI0 hS0 h9 hlh hN1 hm16 hcb hll hp256
            go_wp2_with fail
            refine held_plain [0, 1, 2, 3, 5, 6, 7, 8, 9] 5 (fun w' => w'.cell? ⟨g, i, none⟩ = some (.int .i64 (k0 : Nat))) (by kernel_rfl) (by kernel_rfl) (by kernel_rfl) (by kernel_rfl) (KK.out _ (Below.refl _ _).drew) ?_
            iterate 9
              refine ⟨_, rfl, ?_⟩
              apply Exists.intro
              refine ⟨.inl ⟨by rfl, ?_⟩, ?_⟩
              · (intro W' hW'; obtain q9 := hW'; go_simp; try (with_reducible rfl))
              (dsimp only [Act.put]; try simp only [List.setIfInBounds_toArray, List.set_cons_zero, List.set_cons_succ])
            refine held_one (i := 4) (by kernel_rfl) (by rfl) (by rfl) ?_
            go_wp2_with fail
            refine (PIi _).out.mono ?_; rintro e w7 ⟨rfl, hb7⟩
            have x7 := hid (show Below wr.heap.size wr w7 from (Below.refl _ _).drew.trans hb7)
            clear hb7
            go_wp2_with fail
            refine ⟨KK.out _ x7.out, ?_⟩
            refine held_one (i := 10) (by kernel_rfl) (by rfl) (by rfl) ?_
            go_wp2_with fail
            refine (PS _).out.mono ?_; rintro e w8 ⟨rfl, hb8⟩
            have x8 := hid (bnext x7.out hb8)
            clear hb8
            go_wp2_with fail
            refine ⟨KK.out _ x8.out, ?_⟩
            refine held_more (is := [11]) (g := 2) (by kernel_rfl) rfl (KK.out _ x8.out) (by kernel_rfl) ?_
            iterate 1
              refine ⟨_, rfl, ?_⟩
              apply Exists.intro
              refine ⟨.inl ⟨by rfl, ?_⟩, ?_⟩
              · (intro W' hW'; obtain q9 := hW'; go_simp; try (with_reducible rfl))
              (dsimp only [Act.put]; try simp only [List.setIfInBounds_toArray, List.set_cons_zero, List.set_cons_succ])
            refine held_one (i := 12) (by kernel_rfl) (by rfl) (by rfl) ?_
            go_wp2_with fail
            refine (PHi _ _ (((U4.out.call hB4.out).call hB2.out).call x8.out)).out.mono ?_; rintro e w9 ⟨rfl, hb9⟩
            have x9 := hid (bnext x8.out hb9)
            clear hb9
            go_wp2_with fail
            refine ⟨KK.out _ x9.out, ?_⟩
            refine held_more (is := [13]) (g := 0) (by kernel_rfl) rfl (KK.out _ x9.out) (by kernel_rfl) ?_
            iterate 1
              refine ⟨_, rfl, ?_⟩
              apply Exists.intro
              refine ⟨.inl ⟨by rfl, ?_⟩, ?_⟩
              · (intro W' hW'; obtain q9 := hW'; go_simp; try (with_reducible rfl))
              (dsimp only [Act.put]; try simp only [List.setIfInBounds_toArray, List.set_cons_zero, List.set_cons_succ])
            refine wpAnyH_done (by kernel_rfl) ?_ _
            simp only [Only]
            go_wp2_with fail
            go_roundw
            case rel => exact ⟨i + 1, by rw [h8.out, List.length_append, HF.out]; rfl, by go_num, by have := HI.out; omega, hid (bnext hB2.out x9.out)⟩
            case measure => simp [intOf] <;> (have := HI.out; omega)
        · obtain rfl : i = N := by omega
          have q1 : decide ((i : Int) < (i : Int)) = false := by simp
          have zz := hid (bnext hB4.out hB2.out)
          obtain ⟨F, hF⟩ : ∃ F, (lawL ws j i).length = F := ⟨_, rfl⟩
          rw [hF] at hll ⊢
          have wf : IntKind.i64.wrap ((F : Int) + 1) = ((F + 1 : Nat) : Int) := by rw [IntWalk.i64_in _ ⟨by omega, by omega⟩]; omega
          have HF := hid hF
          obtain ⟨G, hG⟩ : ∃ G, (lawP ws j i).length = G := ⟨_, rfl⟩
          have HG := hid hG
          clear hF hG hlt hN1 hm16 hll
          obtain ⟨tb0, htb⟩ : ∃ b, decide (K > 0) = b := ⟨_, rfl⟩
          go_upto_if 159 with fail
          have HTB := hid htb
          clear htb
          go_cut [18] (fun s18 wc => s18 = .int .i64 (G : Nat) ∧ Hid (Below wq.heap.size wq wc))
          case first =>
            by_cases h0 : K = 0
            · obtain rfl : false = tb0 := by rw [← HTB.out]; simp [h0]
              have e0 : G = F := by rw [← HG.out, ← HF.out, lawP, if_pos (by rw [HK.out]; exact h0)]
              subst e0
              clear h0
              go_wp2_with fail
              go_meet
              case rel => exact ⟨rfl, hB2⟩
            · obtain rfl : true = tb0 := by rw [← HTB.out]; simp; omega
              obtain ⟨k1, k2⟩ := HLL.out (by rw [HK.out]; exact h0)
              have e0 : F + 1 = G := by rw [← HG.out, ← HF.out, k2]
              rw [HK.out, HLT2.out] at k1
              have PHl := fun V v hV => PH V v lateB LT hV
              rw [k1] at PHl
              unfold lateB at PHl
              have E0 := hid e0
              clear h0 k1 k2 e0
              go_wp2_with fail
              refine (PHl _ _ ((U4.out.call hB4.out).call hB2.out)).out.mono ?_; rintro e w9 ⟨rfl, hb9⟩
              have x9 := hid (bnext hB2.out hb9)
              clear hb9
              go_wp2_with fail
              go_meet
              case rel => exact ⟨by rw [← E0.out]; go_num, x9⟩
          case rest =>
            obtain ⟨rfl, hB3⟩ := hcut
            have hDG : D = G := by rw [← HD.out, ← HG.out, HBL.out]
            subst hDG
            have zc := hid (bnext hB4.out hB3.out)
            have UC := hid (U4.out.call zc.out)
            have yc := hid (bnext y4.out zc.out)
            have PS := fun V => PSH V K (by omega)
            rw [HLT2.out] at PS
            go_wp2_with fail
            go_loopw [20] (fun s20 wr => ∃ q : Nat, s20 = .int .i64 (q : Nat) ∧ 1 ≤ q ∧ q ≤ D + 1 ∧ Hid (Below wc.heap.size wc wr)) (fun s20 wr => D + 1 - (intOf s20).toNat)
            case atStart => exact ⟨1, rfl, Nat.le_refl _, by omega, Below.refl _ _⟩
            case round =>
              obtain ⟨q, rfl, hq1, hq2, hB5⟩ := hrel
              by_cases hlt : q < D
              · obtain ⟨p1, hp1⟩ : ∃ x, BL[q - 1]? = some x := ⟨_, List.getElem?_eq_getElem (by rw [HD.out]; omega)⟩
                obtain ⟨p2, hp2⟩ : ∃ x, BL[q]? = some x := ⟨_, List.getElem?_eq_getElem (by rw [HD.out]; omega)⟩
                have hst := HST.out (q - 1) p1 p2 hp1 (by rw [show q - 1 + 1 = q by omega]; exact hp2)
                obtain ⟨a9, k9, e9, -, -, h9⟩ := (UC.out.call hB5.out).ex
                obtain ⟨g1, o1, r1, -, m1, -⟩ := h9 _ _ hp1
                obtain ⟨g2, o2, r2, -, m2, -⟩ := h9 _ _ hp2
                simp only [Value.slice.injEq] at e9
                obtain ⟨rfl, -, rfl⟩ := e9
                rw [r1] at r2
                simp only [Option.some.injEq, Addr.mk.injEq, and_true] at r2
                obtain ⟨rfl, rfl⟩ := r2
                subst r1
                obtain ⟨x1, x2⟩ := p1
                obtain ⟨z1, z2⟩ := p2
                dsimp only [keyL] at m1 m2 hst
                have b1 : (0 : Int) ≤ (q : Int) - 1 := by omega
                have b2 : (q : Int) - 1 < (D : Int) := by omega
                have b5 : (1 : Int) ≤ (q : Int) := by omega
                have b3 : (0 : Int) ≤ (q : Int) := by omega
                have b4 : (q : Int) < (D : Int) := by omega
                have wq1 : IntKind.i64.wrap ((q : Int) - 1) = (q : Int) - 1 := by rw [IntWalk.i64_in _ ⟨by omega, by omega⟩]
                have wi : IntKind.i64.wrap ((q : Int) + 1) = (q : Int) + 1 := by rw [IntWalk.i64_in _ ⟨by omega, by omega⟩]
                have tn : ((q : Int) - 1).toNat = q - 1 := by omega
                rw [Nat.mul_comm 2] at m1 m2
                have hbl := less_lt hst
                clear hp1 hp2 h9 hst
                go_wp2_with fail
                refine held_plain [0, 1, 2, 3, 4, 5, 6, 7, 8, 9, 10, 11] 0 (fun w' => w'.cell? ⟨g1, o1 + (q - 1) * 2, none⟩ = some (.string x1) ∧ w'.cell? ⟨g1, o1 + q * 2, none⟩ = some (.string z1)) (by kernel_rfl) (by kernel_rfl) (by kernel_rfl) (by kernel_rfl) ⟨m1, m2⟩ ?_
                iterate 12
                  refine ⟨_, rfl, ?_⟩
                  apply Exists.intro
                  refine ⟨.inl ⟨by rfl, ?_⟩, ?_⟩
                  · (intro W' hW'; obtain ⟨q1, q2⟩ := hW'; go_simp; try (with_reducible rfl))
                  (dsimp only [Act.put]; try simp only [List.setIfInBounds_toArray, List.set_cons_zero, List.set_cons_succ])
                refine wpAnyH_done (by kernel_rfl) ?_ _
                simp only [Only]
                go_wp2_with fail
                go_roundw
                case rel => exact ⟨q + 1, by go_num, by omega, by omega, hB5.out.drew⟩
                case measure => simp [intOf] <;> omega
              · have q1 : decide (q < D) = false := by simp; omega
                have q2 : decide ((q : Int) < (D : Int)) = false := by simp; omega
                have ye := hid (bnext yc.out hB5.out)
                have q3 : ((D : Int) == (D : Int)) = true := by simp
                have q4 : (LT.toList == LT.toList) = true := by simp
                clear hlt hq1 hq2
                go_wp2_with fail
                refine (PS _).out.mono ?_; rintro e w9 ⟨rfl, hb9⟩
                have yf := hid (bnext ye.out hb9)
                clear hb9
                go_wp2_with fail
                go_ret
                exact ⟨rfl, yf.out⟩
end Go.Proofs.YtpheklgnmbpobaaGreatDoor
namespace Go.Proofs.YtpheklgnmbpobaaGreatDoor
open Go.RowKit Go.Shelf
open Go.Lib (decDigits nDigits)
set_option linter.unusedVariables false
set_option linter.unusedSimpArgs false
set_option maxRecDepth 100000 in
set_option maxHeartbeats 4000000 in
theorem w_BellCounts (w : World) (q : ByteArray) (t n : Int) (hq : q.size ≤ maxLen) (hL : LayB w) :
    Calls Tryz.prog 5 #[.string q, .int .i64 t, .int .i64 n] w fun e w' => e = .returned (.bool true) ∧ Below w.heap.size w w' := by
  unfold maxLen at hq
  have HLV := hid (w_lives w hL.l)
  by_cases c1 : 20 < q.size
  · have t1 : decide ((20 : Int) < (q.size : Int)) = true := decide_eq_true (by omega)
    clear hL c1
    go_enter Tryz.func5, Tryz.ntmps5
    go_wp2_with fail
    refine HLV.out.mono ?_; rintro e w1 ⟨rfl, hb1⟩
    have y1 := hid hb1; clear hb1
    go_wp2_with fail
    go_ret
    exact ⟨rfl, y1.out⟩
  have t1 : decide ((20 : Int) < (q.size : Int)) = false := decide_eq_false (by omega)
  by_cases c2 : n < 0
  · have t2 : decide (n < 0) = true := decide_eq_true c2
    clear hL c1 c2
    go_enter Tryz.func5, Tryz.ntmps5
    go_wp2_with fail
    refine HLV.out.mono ?_; rintro e w1 ⟨rfl, hb1⟩
    have y1 := hid hb1; clear hb1
    go_wp2_with fail
    go_ret
    exact ⟨rfl, y1.out⟩
  have t2 : decide (n < 0) = false := decide_eq_false c2
  by_cases c3 : 8 < n
  · have t3 : decide (8 < n) = true := decide_eq_true c3
    clear hL c1 c2 c3
    go_enter Tryz.func5, Tryz.ntmps5
    go_wp2_with fail
    refine HLV.out.mono ?_; rintro e w1 ⟨rfl, hb1⟩
    have y1 := hid hb1; clear hb1
    go_wp2_with fail
    go_ret
    exact ⟨rfl, y1.out⟩
  have t3 : decide (8 < n) = false := decide_eq_false c3
  by_cases h0 : beE q t = 0
  · obtain ⟨m, rfl, -, -, -⟩ := beV_len h0
    obtain ⟨n', rfl⟩ : ∃ n' : Nat, n = (n' : Nat) := ⟨n.toNat, by omega⟩
    exact be_counts w q m n' (by omega) (by omega) h0 hL
  have HL := hid hL
  have P1 := fun V hV => hid (b_Law V q t n (by omega) hV)
  have P2 := fun V hV => hid (b_Late V q t n (by omega) hV)
  have e1 : blE q t n = beE q t := by unfold blE; rw [if_pos h0]
  have e2 : blR q t n = [] := by unfold blR; rw [e1, if_neg h0]
  have e3 : btR q t n = ⟨#[]⟩ := by unfold btR; rw [e1, if_neg h0]
  rw [e1, e2] at P1
  rw [e1, e3] at P2
  obtain ⟨z, hz⟩ : ∃ z, beE q t = z := ⟨_, rfl⟩
  rw [hz] at P1 P2 h0
  have q0 : (z != 0) = true := by simpa using h0
  have q1 : (z == z) = true := by simp
  clear hL c1 c2 c3 e1 e2 e3 hz h0
  go_enter Tryz.func5, Tryz.ntmps5
  go_wp2_with fail
  refine HLV.out.mono ?_; rintro e w1 ⟨rfl, hb1⟩
  have y1 := hid hb1; clear hb1
  go_wp2_with fail
  refine (P1 _ (HL.out.call y1.out)).out.mono ?_; rintro e w2 ⟨⟨u2, rfl, hu2⟩, hb2⟩
  have y2 := hid (bnext y1.out hb2)
  obtain ⟨a2, k2, rfl, -, -, -⟩ := hu2.ex
  clear hb2 hu2
  go_wp2_with fail
  refine (P2 _ (HL.out.call y2.out).l).out.mono ?_; rintro e w3 ⟨rfl, hb3⟩
  have y3 := hid (bnext y2.out hb3); clear hb3
  go_wp2_with fail
  go_ret
  exact ⟨rfl, y3.out⟩
end Go.Proofs.YtpheklgnmbpobaaGreatDoor
namespace Go.Proofs.YtpheklgnmbpobaaGreatDoor
open Go.RowKit
open Go.Lib (decDigits nDigits)
set_option linter.unusedVariables false
set_option linter.unusedSimpArgs false
structure CutR (s W B D : ByteArray) (S M I fb : Bool) (k : Nat) : Prop where
  sl : ∀ w, Calls Tryz.prog 106 #[.string s] w fun e w' => e = .returned (.int .i64 k) ∧ w = w'
  kle : k ≤ s.size
  cutW : s.extract 0 k = W
  cutB : S = true → s.extract (k + 1) s.size = B
  has : S = decide (k < s.size)
  int : ∀ w, Calls Tryz.prog 107 #[.string W] w fun e w' => e = .returned (.tuple #[.bool M, .string D, .bool I]) ∧ w = w'
  form : ∀ w, Calls Tryz.prog 108 #[.string B] w fun e w' => e = .returned (.bool fb) ∧ w = w'
theorem cutR_of (s : ByteArray) (hs : s.size ≤ 1000000) : CutR s (cW s) (cB s) (iD (cW s)) (cS s) (iM (cW s)) (iB (cW s)) (fB (cB s)) (cW s).size := by
  have key : ∀ k, isSlash s.data.toList k → k = (cW s).size := by
    intro k hk
    obtain ⟨h1, h2, -⟩ := slash_cut hk
    rw [h2]
    simp
    omega
  have ex : ∃ k, isSlash s.data.toList k := by
    rcases sl_cases s.data.toList with hn | ⟨A, B, hA, e⟩
    · exact ⟨s.data.toList.length, Nat.le_refl _, fun j b _ hb => hn b (List.mem_of_getElem? hb), fun h => absurd h (Nat.lt_irrefl _)⟩
    · refine ⟨A.length, by rw [e]; simp, fun j b hj hb => ?_, fun _ => by rw [e]; simp⟩
      rw [e, List.getElem?_append_left hj] at hb
      exact hA b (List.mem_of_getElem? hb)
  obtain ⟨k, hk⟩ := ex
  obtain ⟨h1, h2, h3, h4⟩ := slash_cut hk
  have hk' := key k hk
  subst hk'
  exact {
    sl := fun w => (r2_slash w s (by omega)).mono (by
      rintro e w' ⟨⟨j, rfl, hj⟩, rfl⟩
      rw [key j hj]
      exact ⟨rfl, rfl⟩)
    kle := h1
    cutW := h2.symm
    cutB := fun h => (h4 (by rw [h3] at h; simpa using h)).symm
    has := h3
    int := fun w => r2_integer w (cW s) (by have := cW_size s; omega)
    form := fun w => r2_digits w (cB s) (by have := cB_size s; omega) }
def RetR (x : Int) (m : Bool) (n d : Nat) (e : Ending) (w' : World) : Prop := ∃ v, e = .returned (.tuple #[v, .int .i64 x]) ∧ (x = 0 → ∃ N D, v = .agg #[.bool m, N, D] ∧ IsN .i64 w' N n ∧ IsN .i64 w' D d) ∧ (x ≠ 0 → v = .agg #[.bool false, .slice none 0 0, .slice none 0 0])
theorem RetR.err {x : Int} {m : Bool} {n d : Nat} {w' : World} (h : x ≠ 0) : RetR x m n d (.returned (.tuple #[.agg #[.bool false, .slice none 0 0, .slice none 0 0], .int .i64 x])) w' := ⟨_, rfl, fun e => absurd e h, fun _ => rfl⟩
set_option maxRecDepth 100000 in
set_option maxHeartbeats 1000000 in
theorem rd_bad (w : World) (s W B D : ByteArray) (S M I fb : Bool) (k : Nat) (hs : s.size ≤ 1000000) (HC : CutR s W B D S M I fb k)
    (h : (I && (!S || (decide (D ≠ ⟨#[48]⟩) && fb && decide (B ≠ ⟨#[48]⟩) && decide (B ≠ ⟨#[49]⟩)))) = false) :
    Calls Tryz.prog 52 #[.string s] w fun e w' => e = .returned (.tuple #[.agg #[.bool false, .slice none 0 0, .slice none 0 0], .int .i64 3]) ∧ Below w.heap.size w w' := by
  have key : (I = false) ∨ (I = true ∧ S = true ∧ (D = ⟨#[48]⟩ ∨ (¬ D = ⟨#[48]⟩ ∧ (fb = false ∨ (fb = true ∧ (B = ⟨#[48]⟩ ∨ (¬ B = ⟨#[48]⟩ ∧ B = ⟨#[49]⟩))))))) := by
    by_cases h1 : D = ⟨#[48]⟩ <;> by_cases h2 : B = ⟨#[48]⟩ <;> by_cases h3 : B = ⟨#[49]⟩ <;> cases I <;> cases S <;> cases fb <;> simp [h1, h2, h3] at h ⊢
  have HK := hid HC
  have kle := HC.kle
  have hlt := HC.has
  have cw := hid HC.cutW
  have cb := hid HC.cutB
  clear HC h
  have t0 := hid (Blk.new w #[.bool false, .slice none 0 0, .slice none 0 0] 75)
  have t1 := hid ((Below.refl w.heap.size w).alloc (Nat.le_refl _) (.cells #[.bool false, .slice none 0 0, .slice none 0 0] 75))
  have d0 := t0.out.cell 0
  have d1 := t0.out.cell 1
  have d2 := t0.out.cell 2
  have e0 := t0.out.free 0
  have e1 := t0.out.free 1
  have e2 := t0.out.free 2
  simp at d0 d1 d2
  have ht : ∀ {b : Bool}, b = decide (k < s.size) → decide (k < s.size) = b := fun h => h.symm
  have wk : IntKind.i64.wrap ((k : Int) + 1) = (k : Int) + 1 := by rw [IntWalk.i64_in _ ⟨by omega, by omega⟩]
  have kle2 : S = true → k + 1 ≤ s.size := fun h => by rw [h] at hlt; have := of_decide_eq_true hlt.symm; omega
  rcases key with rfl | ⟨rfl, rfl, rfl | ⟨h1, rfl | ⟨rfl, rfl | ⟨h2, rfl⟩⟩⟩⟩
  · cases S
    · have q0 := ht hlt
      clear hlt ht kle2
      go_enter Tryz.func52, Tryz.ntmps52
      go_wp2_with (first
        | (go_at_call 106; refine (HK.out.sl _).mono ?_; rintro e w1 ⟨rfl, rfl⟩)
        | (go_at_call 107; rw [cw.out]; refine (HK.out.int _).mono ?_; rintro e w2 ⟨rfl, rfl⟩)
        | (go_at_call 108; (first | rw [cb.out trivial] | rw [cb.out rfl]); refine (HK.out.form _).mono ?_; rintro e w3 ⟨rfl, rfl⟩)
        | fail)
      obtain ⟨s1, s2⟩ := set3 t0.out false none none 0 0 0 0
      have f0 := s2.cell 0
      have f1 := s2.cell 1
      have f2 := s2.cell 2
      simp at f0 f1 f2
      refine bodyPost_ret (v := .tuple #[.agg #[.bool false, .slice none 0 0, .slice none 0 0], .int .i64 3]) (by simp [results, Tryz.results52, go_sem, f0, f1, f2]) rfl ⟨rfl, ?_⟩
      first | exact t1.out | exact ((t1.out.setCell (Nat.le_refl _) _).setCell (Nat.le_refl _) _).setCell (Nat.le_refl _) _
    · have q0 := ht hlt
      have kle3 := kle2 rfl
      clear hlt ht kle2
      go_enter Tryz.func52, Tryz.ntmps52
      go_wp2_with (first
        | (go_at_call 106; refine (HK.out.sl _).mono ?_; rintro e w1 ⟨rfl, rfl⟩)
        | (go_at_call 107; rw [cw.out]; refine (HK.out.int _).mono ?_; rintro e w2 ⟨rfl, rfl⟩)
        | (go_at_call 108; (first | rw [cb.out trivial] | rw [cb.out rfl]); refine (HK.out.form _).mono ?_; rintro e w3 ⟨rfl, rfl⟩)
        | fail)
      obtain ⟨s1, s2⟩ := set3 t0.out false none none 0 0 0 0
      have f0 := s2.cell 0
      have f1 := s2.cell 1
      have f2 := s2.cell 2
      simp at f0 f1 f2
      refine bodyPost_ret (v := .tuple #[.agg #[.bool false, .slice none 0 0, .slice none 0 0], .int .i64 3]) (by simp [results, Tryz.results52, go_sem, f0, f1, f2]) rfl ⟨rfl, ?_⟩
      first | exact t1.out | exact ((t1.out.setCell (Nat.le_refl _) _).setCell (Nat.le_refl _) _).setCell (Nat.le_refl _) _
  · have q0 := ht hlt
    have kle3 := kle2 rfl
    clear hlt ht kle2
    go_enter Tryz.func52, Tryz.ntmps52
    go_wp2_with (first
      | (go_at_call 106; refine (HK.out.sl _).mono ?_; rintro e w1 ⟨rfl, rfl⟩)
      | (go_at_call 107; rw [cw.out]; refine (HK.out.int _).mono ?_; rintro e w2 ⟨rfl, rfl⟩)
      | (go_at_call 108; (first | rw [cb.out trivial] | rw [cb.out rfl]); refine (HK.out.form _).mono ?_; rintro e w3 ⟨rfl, rfl⟩)
      | fail)
    obtain ⟨s1, s2⟩ := set3 t0.out false none none 0 0 0 0
    have f0 := s2.cell 0
    have f1 := s2.cell 1
    have f2 := s2.cell 2
    simp at f0 f1 f2
    refine bodyPost_ret (v := .tuple #[.agg #[.bool false, .slice none 0 0, .slice none 0 0], .int .i64 3]) (by simp [results, Tryz.results52, go_sem, f0, f1, f2]) rfl ⟨rfl, ?_⟩
    first | exact t1.out | exact ((t1.out.setCell (Nat.le_refl _) _).setCell (Nat.le_refl _) _).setCell (Nat.le_refl _) _
  · have q0 := ht hlt
    have kle3 := kle2 rfl
    have i1 := ne_lit (l := [48]) h1
    clear hlt ht kle2
    go_enter Tryz.func52, Tryz.ntmps52
    go_wp2_with (first
      | (go_at_call 106; refine (HK.out.sl _).mono ?_; rintro e w1 ⟨rfl, rfl⟩)
      | (go_at_call 107; rw [cw.out]; refine (HK.out.int _).mono ?_; rintro e w2 ⟨rfl, rfl⟩)
      | (go_at_call 108; (first | rw [cb.out trivial] | rw [cb.out rfl]); refine (HK.out.form _).mono ?_; rintro e w3 ⟨rfl, rfl⟩)
      | fail)
    obtain ⟨s1, s2⟩ := set3 t0.out false none none 0 0 0 0
    have f0 := s2.cell 0
    have f1 := s2.cell 1
    have f2 := s2.cell 2
    simp at f0 f1 f2
    refine bodyPost_ret (v := .tuple #[.agg #[.bool false, .slice none 0 0, .slice none 0 0], .int .i64 3]) (by simp [results, Tryz.results52, go_sem, f0, f1, f2]) rfl ⟨rfl, ?_⟩
    first | exact t1.out | exact ((t1.out.setCell (Nat.le_refl _) _).setCell (Nat.le_refl _) _).setCell (Nat.le_refl _) _
  · have q0 := ht hlt
    have kle3 := kle2 rfl
    have i1 := ne_lit (l := [48]) h1
    clear hlt ht kle2
    go_enter Tryz.func52, Tryz.ntmps52
    go_wp2_with (first
      | (go_at_call 106; refine (HK.out.sl _).mono ?_; rintro e w1 ⟨rfl, rfl⟩)
      | (go_at_call 107; rw [cw.out]; refine (HK.out.int _).mono ?_; rintro e w2 ⟨rfl, rfl⟩)
      | (go_at_call 108; (first | rw [cb.out trivial] | rw [cb.out rfl]); refine (HK.out.form _).mono ?_; rintro e w3 ⟨rfl, rfl⟩)
      | fail)
    obtain ⟨s1, s2⟩ := set3 t0.out false none none 0 0 0 0
    have f0 := s2.cell 0
    have f1 := s2.cell 1
    have f2 := s2.cell 2
    simp at f0 f1 f2
    refine bodyPost_ret (v := .tuple #[.agg #[.bool false, .slice none 0 0, .slice none 0 0], .int .i64 3]) (by simp [results, Tryz.results52, go_sem, f0, f1, f2]) rfl ⟨rfl, ?_⟩
    first | exact t1.out | exact ((t1.out.setCell (Nat.le_refl _) _).setCell (Nat.le_refl _) _).setCell (Nat.le_refl _) _
  · have q0 := ht hlt
    have kle3 := kle2 rfl
    have i1 := ne_lit (l := [48]) h1
    have i2 := ne_lit (l := [48]) h2
    clear hlt ht kle2
    go_enter Tryz.func52, Tryz.ntmps52
    go_wp2_with (first
      | (go_at_call 106; refine (HK.out.sl _).mono ?_; rintro e w1 ⟨rfl, rfl⟩)
      | (go_at_call 107; rw [cw.out]; refine (HK.out.int _).mono ?_; rintro e w2 ⟨rfl, rfl⟩)
      | (go_at_call 108; (first | rw [cb.out trivial] | rw [cb.out rfl]); refine (HK.out.form _).mono ?_; rintro e w3 ⟨rfl, rfl⟩)
      | fail)
    obtain ⟨s1, s2⟩ := set3 t0.out false none none 0 0 0 0
    have f0 := s2.cell 0
    have f1 := s2.cell 1
    have f2 := s2.cell 2
    simp at f0 f1 f2
    refine bodyPost_ret (v := .tuple #[.agg #[.bool false, .slice none 0 0, .slice none 0 0], .int .i64 3]) (by simp [results, Tryz.results52, go_sem, f0, f1, f2]) rfl ⟨rfl, ?_⟩
    first | exact t1.out | exact ((t1.out.setCell (Nat.le_refl _) _).setCell (Nat.le_refl _) _).setCell (Nat.le_refl _) _
set_option maxRecDepth 100000 in
set_option maxHeartbeats 1000000 in
theorem rd_long (w : World) (s W B D : ByteArray) (S M fb : Bool) (k : Nat) (hs : s.size ≤ 1000000) (HC : CutR s W B D S M true fb k)
    (h : S = false ∨ (S = true ∧ ¬ D = ⟨#[48]⟩ ∧ ¬ B = ⟨#[48]⟩ ∧ ¬ B = ⟨#[49]⟩ ∧ fb = true)) (hl : 4000 < D.size ∨ (¬ 4000 < D.size ∧ S = true ∧ 4000 < B.size)) :
    Calls Tryz.prog 52 #[.string s] w fun e w' => e = .returned (.tuple #[.agg #[.bool false, .slice none 0 0, .slice none 0 0], .int .i64 5]) ∧ Below w.heap.size w w' := by
  have HK := hid HC
  have kle := HC.kle
  have hlt := HC.has
  have cw := hid HC.cutW
  have cb := hid HC.cutB
  clear HC
  have t0 := hid (Blk.new w #[.bool false, .slice none 0 0, .slice none 0 0] 75)
  have t1 := hid ((Below.refl w.heap.size w).alloc (Nat.le_refl _) (.cells #[.bool false, .slice none 0 0, .slice none 0 0] 75))
  have wk : IntKind.i64.wrap ((k : Int) + 1) = (k : Int) + 1 := by rw [IntWalk.i64_in _ ⟨by omega, by omega⟩]
  have d0 := t0.out.cell 0
  have d1 := t0.out.cell 1
  have d2 := t0.out.cell 2
  have e0 := t0.out.free 0
  have e1 := t0.out.free 1
  have e2 := t0.out.free 2
  simp at d0 d1 d2
  have kle2 : S = true → k + 1 ≤ s.size := fun h => by rw [h] at hlt; have := of_decide_eq_true hlt.symm; omega
  have q0 := hlt.symm
  clear hlt
  rcases h with rfl | ⟨rfl, h1, h2, h3, rfl⟩
  · have q1 : decide ((4000 : Int) < (D.size : Int)) = true := by
      rcases hl with hl | ⟨_, hl, _⟩
      · simp; omega
      · cases hl
    clear hl kle2
    go_enter Tryz.func52, Tryz.ntmps52
    go_wp2_with (first
      | (go_at_call 106; refine (HK.out.sl _).mono ?_; rintro e w1 ⟨rfl, rfl⟩)
      | (go_at_call 107; rw [cw.out]; refine (HK.out.int _).mono ?_; rintro e w2 ⟨rfl, rfl⟩)
      | (go_at_call 108; (first | rw [cb.out trivial] | rw [cb.out rfl]); refine (HK.out.form _).mono ?_; rintro e w3 ⟨rfl, rfl⟩)
      | fail)
    obtain ⟨s1, s2⟩ := set3 t0.out false none none 0 0 0 0
    have f0 := s2.cell 0
    have f1 := s2.cell 1
    have f2 := s2.cell 2
    simp at f0 f1 f2
    refine bodyPost_ret (v := .tuple #[.agg #[.bool false, .slice none 0 0, .slice none 0 0], .int .i64 5]) (by simp [results, Tryz.results52, go_sem, f0, f1, f2]) rfl ⟨rfl, ?_⟩
    first | exact t1.out | exact ((t1.out.setCell (Nat.le_refl _) _).setCell (Nat.le_refl _) _).setCell (Nat.le_refl _) _
  · have kle3 := kle2 rfl
    have i1 := ne_lit (l := [48]) h1
    have i2 := ne_lit (l := [48]) h2
    have i3 := ne_lit (l := [49]) h3
    clear kle2
    rcases hl with hl | ⟨hl, -, hl2⟩
    · have q1 : decide ((4000 : Int) < (D.size : Int)) = true := by simp; omega
      clear hl
      go_enter Tryz.func52, Tryz.ntmps52
      go_wp2_with (first
        | (go_at_call 106; refine (HK.out.sl _).mono ?_; rintro e w1 ⟨rfl, rfl⟩)
        | (go_at_call 107; rw [cw.out]; refine (HK.out.int _).mono ?_; rintro e w2 ⟨rfl, rfl⟩)
        | (go_at_call 108; (first | rw [cb.out trivial] | rw [cb.out rfl]); refine (HK.out.form _).mono ?_; rintro e w3 ⟨rfl, rfl⟩)
        | fail)
      obtain ⟨s1, s2⟩ := set3 t0.out false none none 0 0 0 0
      have f0 := s2.cell 0
      have f1 := s2.cell 1
      have f2 := s2.cell 2
      simp at f0 f1 f2
      refine bodyPost_ret (v := .tuple #[.agg #[.bool false, .slice none 0 0, .slice none 0 0], .int .i64 5]) (by simp [results, Tryz.results52, go_sem, f0, f1, f2]) rfl ⟨rfl, ?_⟩
      first | exact t1.out | exact ((t1.out.setCell (Nat.le_refl _) _).setCell (Nat.le_refl _) _).setCell (Nat.le_refl _) _
    · have q1 : decide ((4000 : Int) < (D.size : Int)) = false := by simp; omega
      have q2 : decide ((4000 : Int) < (B.size : Int)) = true := by simp; omega
      clear hl hl2
      go_enter Tryz.func52, Tryz.ntmps52
      go_wp2_with (first
        | (go_at_call 106; refine (HK.out.sl _).mono ?_; rintro e w1 ⟨rfl, rfl⟩)
        | (go_at_call 107; rw [cw.out]; refine (HK.out.int _).mono ?_; rintro e w2 ⟨rfl, rfl⟩)
        | (go_at_call 108; (first | rw [cb.out trivial] | rw [cb.out rfl]); refine (HK.out.form _).mono ?_; rintro e w3 ⟨rfl, rfl⟩)
        | fail)
      obtain ⟨s1, s2⟩ := set3 t0.out false none none 0 0 0 0
      have f0 := s2.cell 0
      have f1 := s2.cell 1
      have f2 := s2.cell 2
      simp at f0 f1 f2
      refine bodyPost_ret (v := .tuple #[.agg #[.bool false, .slice none 0 0, .slice none 0 0], .int .i64 5]) (by simp [results, Tryz.results52, go_sem, f0, f1, f2]) rfl ⟨rfl, ?_⟩
      first | exact t1.out | exact ((t1.out.setCell (Nat.le_refl _) _).setCell (Nat.le_refl _) _).setCell (Nat.le_refl _) _
set_option maxRecDepth 100000 in
set_option maxHeartbeats 1000000 in
theorem rd_frac (w : World) (s W B D : ByteArray) (M : Bool) (k : Nat) (hs : s.size ≤ 1000000) (HC : CutR s W B D true M true true k)
    (h1 : ¬ D = ⟨#[48]⟩) (h2 : ¬ B = ⟨#[48]⟩) (h3 : ¬ B = ⟨#[49]⟩) (hl1 : ¬ 4000 < D.size) (hl2 : ¬ 4000 < B.size) (hd1 : allDig D.data.toList) (hd2 : allDig B.data.toList) :
    Calls Tryz.prog 52 #[.string s] w fun e w' => RetR (if Nat.gcd (bN D) (bN B) = 1 then 0 else 3) M (bN D) (bN B) e w' ∧ Below w.heap.size w w' := by
  obtain ⟨xc, hxc⟩ : ∃ x : Int, (if Nat.gcd (bN D) (bN B) = 1 then 0 else 3) = x := ⟨_, rfl⟩
  rw [hxc]
  have HXC := hid hxc
  clear hxc
  have HK := hid HC
  have kle := HC.kle
  have hlt := HC.has
  have cw := hid HC.cutW
  have cb := hid HC.cutB
  clear HC
  have t0 := hid (Blk.new w #[.bool false, .slice none 0 0, .slice none 0 0] 75)
  have t1 := hid ((Below.refl w.heap.size w).alloc (Nat.le_refl _) (.cells #[.bool false, .slice none 0 0, .slice none 0 0] 75))
  have wk : IntKind.i64.wrap ((k : Int) + 1) = (k : Int) + 1 := by rw [IntWalk.i64_in _ ⟨by omega, by omega⟩]
  have kle3 : k + 1 ≤ s.size := by have := of_decide_eq_true hlt.symm; omega
  have q0 := hlt.symm
  clear hlt
  have i1 := ne_lit (l := [48]) h1
  have i2 := ne_lit (l := [48]) h2
  have i3 := ne_lit (l := [49]) h3
  have q1 : decide ((4000 : Int) < (D.size : Int)) = false := by simp; omega
  have q2 : decide ((4000 : Int) < (B.size : Int)) = false := by simp; omega
  have L1 := hid (bN_limbs hd1 hl1)
  have L2 := hid (bN_limbs hd2 hl2)
  have P1 := fun W => hid (r1_Read W D hd1 (by omega))
  have P2 := fun W => hid (r1_Read W B hd2 (by omega))
  clear hd1 hd2 h1 h2 h3 hl1 hl2
  go_enter Tryz.func52, Tryz.ntmps52
  go_wp2_with (first
    | (go_at_call 106; refine (HK.out.sl _).mono ?_; rintro e w1 ⟨rfl, rfl⟩)
    | (go_at_call 107; rw [cw.out]; refine (HK.out.int _).mono ?_; rintro e w2 ⟨rfl, rfl⟩)
    | (go_at_call 108; (first | rw [cb.out trivial] | rw [cb.out rfl]); refine (HK.out.form _).mono ?_; rintro e w3 ⟨rfl, rfl⟩)
    | fail)
  refine (P1 _).out.mono ?_; rintro e w4 ⟨⟨v4, rfl, hv4⟩, hb4⟩
  have x4 := hid (t0.out.call hb4)
  have y4 := hid (bnext t1.out hb4)
  have N4 := hid hv4
  clear hb4 hv4
  obtain ⟨a4, c4, rfl, _⟩ := N4.out.openI
  obtain ⟨k1, hk1⟩ : ∃ k, (limbs (dv D.data.toList)).length = k := ⟨_, rfl⟩
  rw [hk1] at N4 ⊢
  clear P1
  go_wp2_with fail
  refine (P2 _).out.mono ?_; rintro e w5 ⟨⟨v5, rfl, hv5⟩, hb5⟩
  have x5 := hid (x4.out.call hb5)
  have y5 := hid (bnext y4.out hb5)
  have N5 := hid (N4.out.call hb5)
  have D5 := hid hv5
  clear hb5 hv5
  obtain ⟨a5, c5, rfl, _⟩ := D5.out.openI
  obtain ⟨k2, hk2⟩ : ∃ k, (limbs (dv B.data.toList)).length = k := ⟨_, rfl⟩
  rw [hk2] at D5 ⊢
  clear P2
  go_wp2_with fail
  have z5 := hid (Blk.new w5 #[.bool M, .slice a4 k1 c4, .slice a5 k2 c5] 75)
  have b5 := hid ((Below.refl w5.heap.size w5).alloc (Nat.le_refl _) (.cells #[.bool M, .slice a4 k1 c4, .slice a5 k2 c5] 75))
  have g0 := z5.out.cell 0
  have g1 := z5.out.cell 1
  have g2 := z5.out.cell 2
  simp at g0 g1 g2
  go_wp2_with fail
  refine (r1_Common _ _ _ _ _ (N5.out.call b5.out) (D5.out.call b5.out) L1.out L2.out).mono ?_
  rintro e w6 ⟨⟨v6, rfl, hv6⟩, hb6⟩
  have z6 := hid (z5.out.call hb6)
  have x6 := hid ((x5.out.call b5.out).call hb6)
  have y6 := hid (bnext (bnext y5.out b5.out) hb6)
  have N6 := hid ((N5.out.call b5.out).call hb6)
  have D6 := hid ((D5.out.call b5.out).call hb6)
  have G6 := hid hv6
  clear hb6 hv6 g0 g1 g2
  go_wp2_with fail
  refine (r2_one _).mono ?_
  rintro e w7 ⟨⟨v7, rfl, hv7⟩, hb7⟩
  have z7 := hid (z6.out.call hb7)
  have x7 := hid (x6.out.call hb7)
  have y7 := hid (bnext y6.out hb7)
  have N7 := hid (N6.out.call hb7)
  have D7 := hid (D6.out.call hb7)
  have G7 := hid (G6.out.call hb7)
  have O7 := hid hv7
  clear hb7 hv7
  go_wp2_with fail
  refine (r1_Order _ _ _ _ _ G7.out O7.out).mono ?_
  rintro e w8 ⟨rfl, hb8⟩
  have z8 := hid (z7.out.call hb8)
  have x8 := hid (x7.out.call hb8)
  have y8 := hid (bnext y7.out hb8)
  have N8 := hid (N7.out.call hb8)
  have D8 := hid (D7.out.call hb8)
  clear hb8
  have d0 := x8.out.cell 0
  have d1 := x8.out.cell 1
  have d2 := x8.out.cell 2
  have e0 := x8.out.free 0
  have e1 := x8.out.free 1
  have e2 := x8.out.free 2
  have g0 := z8.out.cell 0
  have g1 := z8.out.cell 1
  have g2 := z8.out.cell 2
  simp at d0 d1 d2 g0 g1 g2
  
  by_cases hG : Nat.gcd (bN D) (bN B) = 1
  · have hO : ordN (Nat.gcd (dv D.data.toList) (dv B.data.toList)) 1 = 0 := by rw [show Nat.gcd (dv D.data.toList) (dv B.data.toList) = 1 from hG]; exact ordN_eq
    have X0 := hid (show xc = 0 from by rw [← HXC.out, if_pos hG])
    rw [hO]
    clear hO hG
    go_wp2_with fail
    obtain ⟨s1, s2⟩ := set3 x8.out M a4 a5 k1 c4 k2 c5
    have f0 := s2.cell 0
    have f1 := s2.cell 1
    have f2 := s2.cell 2
    simp at f0 f1 f2
    refine bodyPost_ret (v := .tuple #[.agg #[.bool M, .slice a4 k1 c4, .slice a5 k2 c5], .int .i64 0]) (by simp [results, Tryz.results52, go_sem, f0, f1, f2]) rfl ⟨by rw [X0.out]; exact ⟨_, rfl, fun _ => ⟨_, _, rfl, s1 _ _ _ N8.out, s1 _ _ _ D8.out⟩, fun h => absurd rfl h⟩, ?_⟩
    exact ((y8.out.setCell (Nat.le_refl _) _).setCell (Nat.le_refl _) _).setCell (Nat.le_refl _) _
  · have hO : (ordN (Nat.gcd (dv D.data.toList) (dv B.data.toList)) 1 != 0) = true := by
      have hG' : ¬ Nat.gcd (dv D.data.toList) (dv B.data.toList) = 1 := hG
      unfold ordN
      split
      · rfl
      · split
        · rfl
        · omega
    have X0 := hid (show xc = 3 from by rw [← HXC.out, if_neg hG])
    obtain ⟨t, ht⟩ : ∃ t, ordN (Nat.gcd (dv D.data.toList) (dv B.data.toList)) 1 = t := ⟨_, rfl⟩
    rw [ht] at hO ⊢
    clear ht hG
    go_wp2_with fail
    obtain ⟨s1, s2⟩ := set3 x8.out false none none 0 0 0 0
    have f0 := s2.cell 0
    have f1 := s2.cell 1
    have f2 := s2.cell 2
    simp at f0 f1 f2
    refine bodyPost_ret (v := .tuple #[.agg #[.bool false, .slice none 0 0, .slice none 0 0], .int .i64 3]) (by simp [results, Tryz.results52, go_sem, f0, f1, f2]) rfl ⟨by rw [X0.out]; exact RetR.err (by decide), ?_⟩
    exact ((y8.out.setCell (Nat.le_refl _) _).setCell (Nat.le_refl _) _).setCell (Nat.le_refl _) _
set_option maxRecDepth 100000 in
set_option maxHeartbeats 1000000 in
theorem rd_int (w : World) (s W B D : ByteArray) (M fb : Bool) (k : Nat) (hs : s.size ≤ 1000000) (HC : CutR s W B D false M true fb k)
    (hl1 : ¬ 4000 < D.size) (hd1 : allDig D.data.toList) :
    Calls Tryz.prog 52 #[.string s] w fun e w' => RetR 0 M (bN D) 1 e w' ∧ Below w.heap.size w w' := by
  have HK := hid HC
  have kle := HC.kle
  have hlt := HC.has
  have cw := hid HC.cutW
  have cb := hid HC.cutB
  clear HC
  have t0 := hid (Blk.new w #[.bool false, .slice none 0 0, .slice none 0 0] 75)
  have t1 := hid ((Below.refl w.heap.size w).alloc (Nat.le_refl _) (.cells #[.bool false, .slice none 0 0, .slice none 0 0] 75))
  have wk : IntKind.i64.wrap ((k : Int) + 1) = (k : Int) + 1 := by rw [IntWalk.i64_in _ ⟨by omega, by omega⟩]
  have q0 := hlt.symm
  clear hlt
  have q1 : decide ((4000 : Int) < (D.size : Int)) = false := by simp; omega
  have L1 := hid (bN_limbs hd1 hl1)
  have L2 : Hid ((limbs 1).length ≤ 1000000) := by show _ ≤ _; rw [limbs_one]; decide
  have P1 := fun W => hid (r1_Read W D hd1 (by omega))
  have P2 : ∀ W, Hid (Calls Tryz.prog 44 #[.string ⟨#[49]⟩] W fun e w' => RetN .i64 1 e w' ∧ Below W.heap.size W w') := fun W => hid (r1_Read W ⟨#[49]⟩ (by intro b hb; simp at hb; subst hb; rfl) (Nat.succ_le_succ (Nat.zero_le _)))
  have hO : ordN (Nat.gcd (dv D.data.toList) 1) 1 = 0 := by rw [Nat.gcd_one_right]; exact ordN_eq
  have HO := hid hO
  clear hd1 hl1 hO
  go_enter Tryz.func52, Tryz.ntmps52
  go_wp2_with (first
    | (go_at_call 106; refine (HK.out.sl _).mono ?_; rintro e w1 ⟨rfl, rfl⟩)
    | (go_at_call 107; rw [cw.out]; refine (HK.out.int _).mono ?_; rintro e w2 ⟨rfl, rfl⟩)
    | (go_at_call 108; (first | rw [cb.out trivial] | rw [cb.out rfl]); refine (HK.out.form _).mono ?_; rintro e w3 ⟨rfl, rfl⟩)
    | fail)
  refine (P1 _).out.mono ?_; rintro e w4 ⟨⟨v4, rfl, hv4⟩, hb4⟩
  have x4 := hid (t0.out.call hb4)
  have y4 := hid (bnext t1.out hb4)
  have N4 := hid hv4
  clear hb4 hv4
  obtain ⟨a4, c4, rfl, _⟩ := N4.out.openI
  obtain ⟨k1, hk1⟩ : ∃ k, (limbs (dv D.data.toList)).length = k := ⟨_, rfl⟩
  rw [hk1] at N4 ⊢
  clear P1
  go_wp2_with fail
  refine (P2 _).out.mono ?_; rintro e w5 ⟨⟨v5, rfl, hv5⟩, hb5⟩
  have x5 := hid (x4.out.call hb5)
  have y5 := hid (bnext y4.out hb5)
  have N5 := hid (N4.out.call hb5)
  have D5 := hid hv5
  clear hb5 hv5
  obtain ⟨a5, c5, rfl, _⟩ := D5.out.openI
  obtain ⟨k2, hk2⟩ : ∃ k, (limbs 1).length = k := ⟨_, rfl⟩
  rw [hk2] at D5 ⊢
  clear P2
  go_wp2_with fail
  have z5 := hid (Blk.new w5 #[.bool M, .slice a4 k1 c4, .slice a5 k2 c5] 75)
  have b5 := hid ((Below.refl w5.heap.size w5).alloc (Nat.le_refl _) (.cells #[.bool M, .slice a4 k1 c4, .slice a5 k2 c5] 75))
  have g0 := z5.out.cell 0
  have g1 := z5.out.cell 1
  have g2 := z5.out.cell 2
  simp at g0 g1 g2
  go_wp2_with fail
  refine (r1_Common _ _ _ _ _ (N5.out.call b5.out) (D5.out.call b5.out) L1.out L2.out).mono ?_
  rintro e w6 ⟨⟨v6, rfl, hv6⟩, hb6⟩
  have z6 := hid (z5.out.call hb6)
  have x6 := hid ((x5.out.call b5.out).call hb6)
  have y6 := hid (bnext (bnext y5.out b5.out) hb6)
  have N6 := hid ((N5.out.call b5.out).call hb6)
  have D6 := hid ((D5.out.call b5.out).call hb6)
  have G6 := hid hv6
  clear hb6 hv6 g0 g1 g2
  go_wp2_with fail
  refine (r2_one _).mono ?_
  rintro e w7 ⟨⟨v7, rfl, hv7⟩, hb7⟩
  have z7 := hid (z6.out.call hb7)
  have x7 := hid (x6.out.call hb7)
  have y7 := hid (bnext y6.out hb7)
  have N7 := hid (N6.out.call hb7)
  have D7 := hid (D6.out.call hb7)
  have G7 := hid (G6.out.call hb7)
  have O7 := hid hv7
  clear hb7 hv7
  go_wp2_with fail
  refine (r1_Order _ _ _ _ _ G7.out O7.out).mono ?_
  rintro e w8 ⟨rfl, hb8⟩
  have z8 := hid (z7.out.call hb8)
  have x8 := hid (x7.out.call hb8)
  have y8 := hid (bnext y7.out hb8)
  have N8 := hid (N7.out.call hb8)
  have D8 := hid (D7.out.call hb8)
  clear hb8
  have d0 := x8.out.cell 0
  have d1 := x8.out.cell 1
  have d2 := x8.out.cell 2
  have e0 := x8.out.free 0
  have e1 := x8.out.free 1
  have e2 := x8.out.free 2
  have g0 := z8.out.cell 0
  have g1 := z8.out.cell 1
  have g2 := z8.out.cell 2
  simp at d0 d1 d2 g0 g1 g2
  
  rw [HO.out]
  go_wp2_with fail
  obtain ⟨s1, s2⟩ := set3 x8.out M a4 a5 k1 c4 k2 c5
  have f0 := s2.cell 0
  have f1 := s2.cell 1
  have f2 := s2.cell 2
  simp at f0 f1 f2
  refine bodyPost_ret (v := .tuple #[.agg #[.bool M, .slice a4 k1 c4, .slice a5 k2 c5], .int .i64 0]) (by simp [results, Tryz.results52, go_sem, f0, f1, f2]) rfl ⟨⟨_, rfl, fun _ => ⟨_, _, rfl, s1 _ _ _ N8.out, s1 _ _ _ D8.out⟩, fun h => absurd rfl h⟩, ?_⟩
  exact ((y8.out.setCell (Nat.le_refl _) _).setCell (Nat.le_refl _) _).setCell (Nat.le_refl _) _
theorem r2_Read0 (w : World) (s : ByteArray) (hs : s.size ≤ 1000000) :
    Calls Tryz.prog 52 #[.string s] w fun e w' => RetR (qE s) (iM (cW s)) (bN (iD (cW s))) (bN (qD s)) e w' ∧ Below w.heap.size w w' := by
  have HC := cutR_of s hs
  by_cases hq : qB s = true
  · have hi := qB_whole hq
    rw [hi] at HC
    have hdD := fB_dig (iB_form hi)
    have hcS : cS s = false ∨ (cS s = true ∧ ¬ iD (cW s) = ⟨#[48]⟩ ∧ ¬ cB s = ⟨#[48]⟩ ∧ ¬ cB s = ⟨#[49]⟩ ∧ fB (cB s) = true) := by
      have hq' := hq
      unfold qB at hq'
      simp only [Bool.and_eq_true, Bool.or_eq_true, Bool.not_eq_true', decide_eq_true_eq] at hq'
      rcases hq'.2 with h | h
      · exact .inl h
      · cases hc : cS s
        · exact .inl rfl
        · exact .inr ⟨rfl, h.1.1.1, h.1.2, h.2, h.1.1.2⟩
    by_cases hl : qL s = true
    · have e : qE s = 5 := by simp [qE, hq, hl]
      rw [e]
      unfold qL at hl
      simp only [Bool.or_eq_true, decide_eq_true_eq] at hl
      refine (rd_long w s _ _ _ _ _ _ _ hs HC hcS ?_).mono ?_
      · by_cases h4 : 4000 < (iD (cW s)).size
        · exact .inl h4
        · refine .inr ⟨h4, ?_⟩
          rcases hcS with hc | ⟨hc, -⟩
          · rw [qD_false hc] at hl
            exact absurd (hl.resolve_left h4) (by decide)
          · rw [qD_true hc] at hl
            exact ⟨hc, hl.resolve_left h4⟩
      · rintro e w' ⟨rfl, hb⟩
        exact ⟨RetR.err (by decide), hb⟩
    · have hl' : qL s = false := by simpa using hl
      have hl1 : ¬ 4000 < (iD (cW s)).size ∧ ¬ 4000 < (qD s).size := by
        unfold qL at hl'
        simpa using hl'
      rcases hcS with hc | ⟨hc, h1, h2, h3, h4⟩
      · rw [hc] at HC
        have e : qE s = 0 := by simp [qE, hq, hl', qG, hc]
        rw [e, qD_false hc]
        exact rd_int w s _ _ _ _ _ _ hs HC hl1.1 hdD
      · rw [hc, h4] at HC
        have hl2 := hl1.2
        rw [qD_true hc] at hl2
        have e : qE s = if Nat.gcd (bN (iD (cW s))) (bN (cB s)) = 1 then 0 else 3 := by
          simp only [qE, hq, hl', qG, hc, qD_true hc]
          by_cases hg : Nat.gcd (bN (iD (cW s))) (bN (cB s)) = 1 <;> simp [hg]
        rw [e, qD_true hc]
        exact rd_frac w s _ _ _ _ _ hs HC h1 h2 h3 hl1.1 hl2 hdD (fB_dig h4)
  · have hq' : qB s = false := by simpa using hq
    have e : qE s = 3 := by simp [qE, hq']
    rw [e]
    refine (rd_bad w s _ _ _ _ _ _ _ _ hs HC hq').mono ?_
    rintro e w' ⟨rfl, hb⟩
    exact ⟨RetR.err (by decide), hb⟩
def RetQE (s : ByteArray) (e : Ending) (w' : World) : Prop := ∃ v, e = .returned (.tuple #[v, .int .i64 (qE s)]) ∧ (qE s = 0 → IsQ .i64 w' v (vQ s)) ∧ (qE s ≠ 0 → v = .agg #[.bool false, .slice none 0 0, .slice none 0 0])
theorem r2_Read (w : World) (s : ByteArray) (hs : s.size ≤ 1000000) :
    Calls Tryz.prog 52 #[.string s] w fun e w' => RetQE s e w' ∧ Below w.heap.size w w' := by
  refine (r2_Read0 w s hs).mono ?_
  rintro e w' ⟨⟨v, rfl, h1, h2⟩, hb⟩
  refine ⟨⟨v, rfl, fun h => ?_, h2⟩, hb⟩
  obtain ⟨N, D, rfl, hN, hD⟩ := h1 h
  obtain ⟨e1, e2, e3⟩ := vQ_ok h
  exact ⟨N, D, by rw [e1], by rw [e2]; exact hN, by rw [e3]; exact hD⟩
end Go.Proofs.YtpheklgnmbpobaaGreatDoor
namespace Go.Proofs.YtpheklgnmbpobaaGreatDoor
open Go.RowKit
open Go.Lib (decDigits nDigits)
set_option linter.unusedVariables false
set_option linter.unusedSimpArgs false
def Qv (v : Value) : Prop := ∃ (m : Bool) (a : Option Addr) (n c : Nat) (a' : Option Addr) (n' c' : Nat), v = .agg #[.bool m, .slice a n c, .slice a' n' c']
theorem IsQ.qv {k : IntKind} {w : World} {v : Value} {q : Rat} (h : IsQ k w v q) : Qv v := by
  obtain ⟨N, D, rfl, h1, h2⟩ := h.ex
  obtain ⟨a1, c1, rfl, _⟩ := h1.openI
  obtain ⟨a2, c2, rfl, _⟩ := h2.openI
  exact ⟨_, _, _, _, _, _, _, rfl⟩
theorem RetQE.open {s : ByteArray} {e : Ending} {w' : World} (h : RetQE s e w') : ∃ (m : Bool) (a : Option Addr) (n c : Nat) (a' : Option Addr) (n' c' : Nat), e = .returned (.tuple #[.agg #[.bool m, .slice a n c, .slice a' n' c'], .int .i64 (qE s)]) ∧ (qE s = 0 → IsQ .i64 w' (.agg #[.bool m, .slice a n c, .slice a' n' c']) (vQ s)) ∧ (qE s ≠ 0 → m = false ∧ a = none ∧ n = 0 ∧ c = 0 ∧ a' = none ∧ n' = 0 ∧ c' = 0) := by
  obtain ⟨v, rfl, h1, h2⟩ := h
  by_cases h0 : qE s = 0
  · obtain ⟨m, a, n, c, a', n', c', rfl⟩ := (h1 h0).qv
    exact ⟨m, a, n, c, a', n', c', rfl, h1, fun h => absurd h0 h⟩
  · obtain rfl := h2 h0
    exact ⟨_, _, _, _, _, _, _, rfl, h1, fun _ => ⟨rfl, rfl, rfl, rfl, rfl, rfl, rfl⟩⟩
theorem IsN.drew {k : IntKind} {w : World} {v : Value} {n : Nat} (h : IsN k w v n) : IsN k w.drew v n := Row.drew h
theorem Dig.limbs {K L : Nat} {q : Rat} (h : Dig K q) (h0 : 0 < K) (hl : K ≤ 9 * L) : (limbs q.num.natAbs).length ≤ L ∧ (limbs q.den).length ≤ L :=
  ⟨limbs_digits (Nat.le_trans (nDigits_le h0 h.n) hl), limbs_digits (Nat.le_trans (nDigits_le h0 h.d) hl)⟩
end Go.Proofs.YtpheklgnmbpobaaGreatDoor
namespace Go.Proofs.YtpheklgnmbpobaaGreatDoor
open Go.RowKit
open Go.Lib (decDigits nDigits)
set_option linter.unusedVariables false
set_option linter.unusedSimpArgs false
set_option maxRecDepth 100000 in
set_option maxHeartbeats 1000000 in
theorem r2_Check (w : World) (s : ByteArray) (hs : s.size ≤ 1000000) : Calls Tryz.prog 60 #[.string s] w fun e w' => e = .returned (.int .i64 (qE s)) ∧ Below w.heap.size w w' := by
  have R1 := fun V => hid (r2_Read V s hs)
  clear hs
  go_enter Tryz.func60, Tryz.ntmps60
  go_wp2_with fail
  refine (R1 _).out.mono ?_; rintro e w1 ⟨hr1, hb1⟩
  obtain ⟨m, a, n, c, a', n', c', rfl, h1, h2⟩ := hr1.open
  obtain ⟨x, hx⟩ : ∃ x, qE s = x := ⟨_, rfl⟩
  have HX := hid hx
  rw [hx]
  have y2 := hid (hb1.alloc hb1.size (.cells #[.bool m, .slice a n c, .slice a' n' c'] 75))
  clear h1 h2 hr1 hb1 hx R1
  go_wp2_with fail
  go_ret
  exact ⟨by rw [HX.out]; rfl, y2.out⟩
theorem IsQ.parts {k : IntKind} {w : World} {m : Bool} {N D : Value} {q : Rat} (h : IsQ k w (.agg #[.bool m, N, D]) q) : IsN k w N q.num.natAbs ∧ IsN k w D q.den := by
  obtain ⟨N', D', e, h1, h2⟩ := h.ex
  simp at e
  obtain ⟨-, rfl, rfl⟩ := e
  exact ⟨h1, h2⟩
end Go.Proofs.YtpheklgnmbpobaaGreatDoor
namespace Go.Proofs.YtpheklgnmbpobaaGreatDoor
open Go.RowKit
open Go.Lib (decDigits nDigits)
set_option linter.unusedVariables false
structure Few (ws : List Nat) : Prop where
  len : ws.length ≤ 64
  dig : ∀ x ∈ ws, nDigits x ≤ 300
  pos : 0 < ws.sum
theorem Few.sum {ws : List Nat} (h : Few ws) : nDigits ws.sum ≤ 302 := nd_sum h.dig (by have := h.len; omega)
theorem Few.pre {ws : List Nat} (h : Few ws) (i : Nat) : nDigits (pre ws i) ≤ 302 := nd_pre i h.sum
theorem Few.at {ws : List Nat} (h : Few ws) (i : Nat) : nDigits (ws.getD i 0) ≤ 300 := by
  cases hx : ws[i]? with
  | some x => rw [List.getD_eq_getElem?_getD, hx]; exact h.dig x (List.mem_of_getElem? hx)
  | none => rw [List.getD_eq_getElem?_getD, hx]; exact Nat.le_trans (by rw [show (none : Option Nat).getD 0 = 0 from rfl, nDigits_zero]; exact Nat.le_refl 1) (by omega)
theorem Few.cnt {ws : List Nat} (h : Few ws) {m : Nat} (hm : m ≤ 256) (i : Nat) : nDigits (cnt ws (2 ^ m) i) ≤ 300 := by
  have h1 := nDigits_mono (Nat.le_trans (cnt_le ws (2 ^ m) i h.pos) (Nat.sub_le _ _))
  have h2 := two_nd (u := m) (by omega)
  omega
theorem two_ne (m : Nat) : 2 ^ m ≠ 0 := Nat.ne_of_gt (Nat.pow_pos (by omega))
section
variable {ws : List Nat} {m : Nat} (h : Few ws) (hm : m ≤ 256)
include h
include hm
omit hm
end
end Go.Proofs.YtpheklgnmbpobaaGreatDoor
namespace Go.Proofs.YtpheklgnmbpobaaGreatDoor
open Go.RowKit Go.Shelf
open Go.Lib (decDigits nDigits)
set_option linter.unusedVariables false
set_option linter.unusedSimpArgs false
theorem zero_whole {q : ByteArray} (h : qE q = 0) : cW q = ⟨#[48]⟩ ↔ q = ⟨#[48]⟩ := by
  constructor
  · intro e
    have hm : iM (cW q) = false := by rw [e]; decide
    obtain ⟨v1, -, -, -, -, v6⟩ := valid h
    rw [hm] at v6
    rw [iD_plain hm, e, show bN (⟨#[48]⟩ : ByteArray) = 0 by rw [← numB_zero, bN_num]] at v1 v6
    rw [Nat.gcd_zero_left] at v1
    rw [v6, v1]
    decide +kernel
  · rintro rfl
    decide +kernel
theorem vQ_parts {q : ByteArray} (h : qE q = 0) : decide ((vQ q).num < 0) = iM (cW q) ∧ (iM (cW q) = false → (vQ q).num.natAbs = bN (cW q)) ∧ (vQ q).den = bN (qD q) := by
  obtain ⟨h1, h2, h3⟩ := vQ_ok h
  exact ⟨h1, fun hm => by rw [h2, iD_plain hm], h3⟩
set_option maxRecDepth 100000 in
set_option maxHeartbeats 2000000 in
theorem rw_e1 (w : World) (q : ByteArray) (t : Int) (hq : q.size ≤ 100000) (h0 : qE q ≠ 0) :
    Calls Tryz.prog 26 #[.string q, .int .i64 t] w fun e w' => (∃ u, e = .returned (.tuple #[u, .int .i64 (beE q t)]) ∧ Row w' u (strs (beW q t))) ∧ Below w.heap.size w w' := by
  have HP := hid (r2_Check w q (by omega))
  have e1 : beE q t = qE q := by unfold beE; rw [if_pos h0]
  have e2 : beW q t = [] := by unfold beW; rw [e1, if_neg h0]
  rw [e1, e2]
  obtain ⟨z, hz⟩ : ∃ z, qE q = z := ⟨_, rfl⟩
  rw [hz] at HP h0 ⊢
  have q0 : (z != 0) = true := by simpa using h0
  clear hz h0 e1 e2
  go_enter Tryz.func26, Tryz.ntmps26
  go_wp2_with fail
  refine HP.out.mono ?_; rintro e w1 ⟨rfl, hb1⟩
  have y1 := hid hb1; clear hb1
  go_wp2_with fail
  go_ret2
  exact ⟨⟨_, rfl, Row.nil _⟩, y1.out⟩
set_option maxRecDepth 100000 in
set_option maxHeartbeats 4000000 in
theorem rw_e2 (w : World) (q : ByteArray) (t : Int) (hq : q.size ≤ 100000) (h0 : qE q = 0) (h1 : cW q = ⟨#[48]⟩ ∨ iM (cW q) = true ∨ bN (qD q) < bN (cW q) ∨ t < 0 ∨ 16 < t) :
    Calls Tryz.prog 26 #[.string q, .int .i64 t] w fun e w' => (∃ u, e = .returned (.tuple #[u, .int .i64 (beE q t)]) ∧ Row w' u (strs (beW q t))) ∧ Below w.heap.size w w' := by
  have HP := hid (r2_Check w q (by omega))
  have HR := fun V => hid (r2_Read V q (by omega))
  rw [h0] at HP
  have e1 : beE q t = 2 := by unfold beE; rw [if_neg (by rw [h0]; simp), if_pos h1]
  have e2 : beW q t = [] := by unfold beW; rw [e1, if_neg (by decide)]
  rw [e1, e2]
  obtain ⟨p1, p2, p3⟩ := vQ_parts h0
  have HO := fun V v u a b ha hb => hid (r1_Order V v u a b ha hb)
  rw [zero_whole h0] at h1
  have HQ0 := hid h0
  have HP1 := hid p1; have HP2 := hid p2; have HP3 := hid p3
  have H1 := hid h1
  clear h0 h1 e1 e2 p1 p2 p3
  go_enter Tryz.func26, Tryz.ntmps26
  go_wp2_with fail
  refine HP.out.mono ?_; rintro e w1 ⟨rfl, hb1⟩
  have y1 := hid hb1; clear hb1
  go_wp2_with fail
  refine (HR _).out.mono ?_; rintro e w2 ⟨⟨v, rfl, hv, -⟩, hb2⟩
  have y2 := hid (bnext y1.out hb2)
  have hv2 := hv HQ0.out
  obtain ⟨N, D, rfl, hN, hD⟩ := hv2.ex
  rw [HP1.out]
  have N2 := hid hN; have D2 := hid hD
  obtain ⟨a5, c5, rfl, -, -, -⟩ := hN.openI
  obtain ⟨a6, c6, rfl, -, -, -⟩ := hD.openI
  obtain ⟨l5, h5⟩ : ∃ l, (limbs (vQ q).num.natAbs).length = l := ⟨_, rfl⟩
  obtain ⟨l6, h6⟩ : ∃ l, (limbs (vQ q).den).length = l := ⟨_, rfl⟩
  rw [h5] at N2 ⊢
  rw [h6] at D2 ⊢
  rw [HQ0.out]
  have A3 := hid ((Below.refl w2.heap.size w2).alloc (Nat.le_refl _) (.cells #[.bool (iM (cW q)), .slice a5 l5 c5, .slice a6 l6 c6] 75))
  have y3 := hid (bnext y2.out A3.out)
  clear hb2 hv hv2 hN hD h5 h6
  cases hm : iM (cW q)
  · have HM := hid hm
    rw [hm] at A3 y3
    have hN' : (vQ q).num.natAbs = bN (cW q) := HP2.out hm
    rw [hN'] at N2
    rw [HP3.out] at D2
    have HOO := hid (HO _ _ _ _ _ (N2.out.call A3.out) (D2.out.call A3.out))
    have hpos := ordN_pos (a := bN (cW q)) (b := bN (qD q))
    obtain ⟨z, hz⟩ : ∃ z, ordN (bN (cW q)) (bN (qD q)) = z := ⟨_, rfl⟩
    rw [hz] at HOO hpos
    clear hm hN'
    by_cases c0 : q = ⟨#[48]⟩
    · subst c0
      clear hpos hz
      go_wp2_with fail
      go_ret2
      exact ⟨⟨_, rfl, Row.nil _⟩, y3.out⟩
    have n0 := ne_lit (d := q) (l := [48]) c0
    by_cases c2 : bN (qD q) < bN (cW q)
    · rw [decide_eq_true c2] at hpos
      clear c2 c0 hz
      go_wp2_with fail
      refine HOO.out.out.mono ?_; rintro e w4 ⟨rfl, hb4⟩
      have y4 := hid (bnext y3.out hb4); clear hb4
      go_wp2_with fail
      go_ret2
      exact ⟨⟨_, rfl, Row.nil _⟩, y4.out⟩
    rw [decide_eq_false c2] at hpos
    have h2 : t < 0 ∨ 16 < t := by
      rcases H1.out with h | h | h | h
      · exact absurd h c0
      · rw [HM.out] at h; cases h
      · exact absurd h c2
      · exact h
    clear c2 c0 hz
    by_cases c3 : t < 0
    · have t1 : decide (t < 0) = true := decide_eq_true c3
      clear h2 c3
      go_wp2_with fail
      refine HOO.out.out.mono ?_; rintro e w4 ⟨rfl, hb4⟩
      have y4 := hid (bnext y3.out hb4); clear hb4
      go_wp2_with fail
      go_ret2
      exact ⟨⟨_, rfl, Row.nil _⟩, y4.out⟩
    · have t1 : decide (t < 0) = false := decide_eq_false c3
      have t2 : decide (16 < t) = true := decide_eq_true (by omega)
      clear h2 c3
      go_wp2_with fail
      refine HOO.out.out.mono ?_; rintro e w4 ⟨rfl, hb4⟩
      have y4 := hid (bnext y3.out hb4); clear hb4
      go_wp2_with fail
      go_ret2
      exact ⟨⟨_, rfl, Row.nil _⟩, y4.out⟩
  · rw [hm] at y3
    clear hm
    go_wp2_with fail
    go_ret2
    exact ⟨⟨_, rfl, Row.nil _⟩, y3.out⟩
end Go.Proofs.YtpheklgnmbpobaaGreatDoor
namespace Go.Proofs.YtpheklgnmbpobaaGreatDoor
open Go.RowKit Go.Shelf
open Go.Lib (decDigits nDigits)
set_option linter.unusedVariables false
set_option linter.unusedSimpArgs false
theorem beD_sq (m j : Nat) : ((j : Int) - m) * ((j : Int) - m) = ((beD m j * beD m j : Nat) : Int) := by
  rw [Int.natCast_mul]
  unfold beD
  split
  · rename_i h
    rw [Int.ofNat_sub h, ← Int.neg_sub, Int.neg_mul_neg]
  · rename_i h
    rw [Int.ofNat_sub (by omega)]
theorem beL_take {N D m j : Nat} (h : j < 2 * m + 1) : ((beL N D m).take (j + 1)).map numB = ((beL N D m).take j).map numB ++ [numB (beN N D m (beD m j))] := by
  rw [List.take_add_one, beL_get h, Option.toList_some, List.map_append]; rfl
set_option maxRecDepth 100000 in
set_option maxHeartbeats 800000 in
theorem rw_main (w : World) (q : ByteArray) (m : Nat) (hq : q.size ≤ 100000) (h0 : qE q = 0) (h1 : ¬ (cW q = ⟨#[48]⟩ ∨ iM (cW q) = true ∨ bN (qD q) < bN (cW q) ∨ (m : Int) < 0 ∨ 16 < (m : Int))) :
    Calls Tryz.prog 26 #[.string q, .int .i64 (m : Nat)] w fun e w' => (∃ u, e = .returned (.tuple #[u, .int .i64 (beE q m)]) ∧ Row w' u (strs (beW q m))) ∧ Below w.heap.size w w' := by
  have HP := hid (r2_Check w q (by omega))
  have HR := fun V => hid (r2_Read V q (by omega))
  rw [h0] at HP
  have HNOT := hid (fun k (hk : k ≤ m) => beE_not (k := k) h0 h1 hk)
  have HYES := hid (beE_yes h0 h1)
  have HW := hid (fun h : beE q m = 0 => beW_is h)
  have HW5 : Hid (beE q m = 5 → beW q m = []) := fun h => by unfold beW; rw [h, if_neg (by decide)]
  have hm : iM (cW q) = false := by
    cases e : iM (cW q)
    · rfl
    · exact absurd (.inr (.inl e)) h1
  obtain ⟨p1, p2, p3⟩ := vQ_parts h0
  obtain ⟨v1, v2, v3, v4, v5⟩ := whole_is h0 hm
  have hN0 : 0 < bN (cW q) := by
    rcases Nat.eq_zero_or_pos (bN (cW q)) with e | e
    · exact absurd (.inl (by rw [v1, e, numB_zero])) h1
    · exact e
  have hm16 : m ≤ 16 := by
    have : ¬ 16 < (m : Int) := fun h => h1 (.inr (.inr (.inr (.inr h))))
    omega
  have n0 := ne_lit (d := q) (l := [48]) (fun e => h1 (.inl ((zero_whole h0).2 e)))
  have hpos := ordN_pos (a := bN (cW q)) (b := bN (qD q))
  rw [decide_eq_false (fun h => h1 (.inr (.inr (.inl h))))] at hpos
  have HOR := hid (fun V v u a b ha hb => r1_Order V v u a b ha hb)
  have HQ := hid (fun (W : World) v (h : IsQ .i64 W v (vQ q)) => (by
    obtain ⟨N, D, e, hN, hD⟩ := h.ex
    rw [p1, hm] at e
    rw [p2 hm] at hN
    rw [p3] at hD
    exact ⟨N, D, e, hN, hD⟩ : ∃ N D, v = .agg #[.bool false, N, D] ∧ IsN .i64 W N (bN (cW q)) ∧ IsN .i64 W D (bN (qD q))))
  rw [Int.toNat_natCast] at HW
  have HQ0 := hid h0
  obtain ⟨NN, hNN⟩ : ∃ x, bN (cW q) = x := ⟨_, rfl⟩
  obtain ⟨DD, hDD⟩ : ∃ x, bN (qD q) = x := ⟨_, rfl⟩
  rw [hNN, hDD] at HYES HW hpos
  simp only [hNN, hDD] at HNOT HQ
  rw [hNN] at v4 hN0
  rw [hDD] at v3 v5
  have PN := fun V v n (h : IsN .i64 V v NN) (hn : n ≤ 1000) => hid (r1_Power V v NN n h v4 (by omega))
  have PD := fun V v n (h : IsN .i64 V v DD) (hn : n ≤ 1000) => hid (r1_Power V v DD n h v5 (by omega))
  have PT := fun V v u a b (ha : IsN .i64 V v a) (hb : IsN .i64 V u b) (da : nDigits a ≤ 4000) (db : nDigits b ≤ 4000) => hid (r1_Times V v u a b ha hb (num_limbs da) (num_limbs db))
  have PW := fun V v a (h : IsN .i64 V v a) (da : nDigits a ≤ 9000) => hid (r1_Write V v a h (Nat.le_trans (limbs_digits (K := 1000) (by omega)) (by omega)))
  have HBEN : Hid (∀ k, NN ^ (k * k) * DD ^ (m * m - k * k) = beN NN DD m k) := fun k => rfl
  have HTK := hid (fun j h => beL_take (N := NN) (D := DD) (m := m) (j := j) h)
  have HPX : Hid (∀ k, 0 < NN ^ (k * k)) := fun k => Nat.pow_pos hN0
  have HPY : Hid (∀ k, 0 < DD ^ (m * m - k * k)) := fun k => Nat.pow_pos v3
  have HLL : Hid ((beL NN DD m).length = 2 * m + 1) := beL_len _ _ _
  obtain ⟨z, hz⟩ : ∃ z, ordN NN DD = z := ⟨_, rfl⟩
  rw [hz] at hpos
  have HZ := hid hz
  obtain ⟨bE, hbE⟩ : ∃ x, beE q m = x := ⟨_, rfl⟩
  obtain ⟨bW, hbW⟩ : ∃ x, beW q m = x := ⟨_, rfl⟩
  rw [hbE] at HNOT HYES HW HW5 ⊢
  rw [hbW] at HW HW5 ⊢
  have hmm : m * m ≤ 256 := Nat.mul_le_mul hm16 hm16
  have wmm0 : (m : Int) * (m : Int) = ((m * m : Nat) : Int) := by rw [Int.natCast_mul]
  obtain ⟨mm, hmm'⟩ : ∃ x, m * m = x := ⟨_, rfl⟩
  rw [hmm'] at hmm wmm0
  simp only [hmm'] at HBEN HPY
  have wmm : IntKind.i64.wrap ((m : Int) * (m : Int)) = (mm : Int) := by rw [wmm0, IntWalk.i64_in _ ⟨by omega, by omega⟩]
  have HMM2 := hid hmm'
  have wneg : IntKind.i64.wrap (-(m : Int)) = -(m : Int) := by rw [IntWalk.i64_in _ ⟨by omega, by omega⟩]
  have t1 : decide ((m : Int) < 0) = false := by simp
  have t2 : decide ((16 : Int) < (m : Int)) = false := by simp; omega
  have M16 := hid hm16; have MM := hid hmm
  obtain ⟨i0, hi, hz0, hz1, hz2⟩ := info_parts info_num
  clear h0 h1 hm p1 p2 p3 v1 v2 v3 v4 v5 hN0 hNN hDD hz hbE hbW hm16 hmm wmm0 hmm'
  go_enter Tryz.func26, Tryz.ntmps26
  go_wp2_with fail
  refine HP.out.mono ?_; rintro e w1 ⟨rfl, hb1⟩
  have y1 := hid hb1; clear hb1
  go_wp2_with fail
  refine (HR _).out.mono ?_; rintro e w2 ⟨⟨v, rfl, hv, -⟩, hb2⟩
  have y2 := hid (bnext y1.out hb2)
  obtain ⟨N, D, rfl, hN, hD⟩ := HQ.out _ _ (hv HQ0.out)
  have N2 := hid hN; have D2 := hid hD
  obtain ⟨a5, c5, rfl, -, -, -⟩ := hN.openI
  obtain ⟨a6, c6, rfl, -, -, -⟩ := hD.openI
  obtain ⟨l5, h5⟩ : ∃ l, (limbs NN).length = l := ⟨_, rfl⟩
  obtain ⟨l6, h6⟩ : ∃ l, (limbs DD).length = l := ⟨_, rfl⟩
  rw [h5] at N2 ⊢
  rw [h6] at D2 ⊢
  rw [HQ0.out]
  have A3 := hid ((Below.refl w2.heap.size w2).alloc (Nat.le_refl _) (.cells #[.bool false, .slice a5 l5 c5, .slice a6 l6 c6] 75))
  have X3 := hid (Blk.new w2 #[.bool false, .slice a5 l5 c5, .slice a6 l6 c6] 75)
  have y3 := hid (bnext y2.out A3.out)
  have N3 := hid (N2.out.call A3.out)
  have D3 := hid (D2.out.call A3.out)
  have HOO := hid (HOR.out _ _ _ _ _ N3.out D3.out)
  rw [HZ.out] at HOO
  obtain ⟨B0, hB0⟩ : ∃ B0, w2.heap.size = B0 := ⟨_, rfl⟩
  rw [hB0] at X3
  have HB0 := hid hB0
  clear hb2 hv hN hD h5 h6 hB0
  go_wp2_with fail
  refine HOO.out.mono ?_; rintro e w4 ⟨rfl, hb4⟩
  have y4 := hid (bnext y3.out hb4)
  have X4 := hid (X3.out.call hb4)
  have N4 := hid (N3.out.call hb4)
  have D4 := hid (D3.out.call hb4)
  clear hb4
  rw [HB0.out]
  go_wp2_with fail
  go_loopw [9, 10] (fun s9 s10 wr => ∃ (j : Nat) (k : Int), s10 = .int .i64 k ∧ k = (j : Int) - (m : Int) ∧ j ≤ 2 * m + 1 ∧ Hid (∀ i, i < j → nDigits (beN NN DD m (beD m i)) ≤ 3800) ∧ Hid (wr.ownsRow w4.heap.size 22 1 s9 j (strs (((beL NN DD m).take j).map numB))) ∧ Hid (Below w4.heap.size w4 wr)) (fun s9 s10 wr => 2 * m + 1 - (intOf s10 + m).toNat)
  case atStart => exact ⟨0, -(m : Int), rfl, by omega, Nat.zero_le _, fun j hj => absurd hj (by omega), ⟨rfl, .inl ⟨rfl, rfl⟩⟩, Below.refl _ _⟩
  case round =>
    obtain ⟨j, k, rfl, hk, hj, hI, hO, hB⟩ := hrel
    obtain ⟨a7, c7, rfl⟩ := owns_ex hO.out
    have yr := hid (bnext y4.out hB.out)
    have hm16 := M16.out
    by_cases hlt : j < 2 * m + 1
    · have hbd := beD_le (t := m) (j := j) (by omega)
      have hsq := beD_sq m j
      rw [← hk] at hsq
      have hbb : beD m j * beD m j ≤ m * m := Nat.mul_le_mul hbd hbd
      have hmm := MM.out
      rw [HMM2.out] at hbb
      have t3 : decide (k ≤ (m : Int)) = true := decide_eq_true (by omega)
      have wk1 : IntKind.i64.wrap (k + 1) = k + 1 := by rw [IntWalk.i64_in _ ⟨by omega, by omega⟩]
      have wkk : IntKind.i64.wrap (k * k) = ((beD m j * beD m j : Nat) : Int) := by rw [hsq, IntWalk.i64_in _ ⟨by omega, by omega⟩]
      have wdd : IntKind.i64.wrap ((mm : Int) - ((beD m j * beD m j : Nat) : Int)) = ((mm - beD m j * beD m j : Nat) : Int) := by rw [IntWalk.i64_in _ ⟨by omega, by omega⟩]; omega
      have hnot := HNOT.out (beD m j) hbd
      have htk := HTK.out j hlt
      have hben := HBEN.out (beD m j)
      have hpx := HPX.out (beD m j)
      have hpy := HPY.out (beD m j)
      have PNk := fun V v h => PN V v (beD m j * beD m j) h (by omega)
      have PDk := fun V v h => PD V v (mm - beD m j * beD m j) h (by omega)
      have HK := hid hk; have HJ := hid hlt
      obtain ⟨kk, hkk⟩ : ∃ x, beD m j * beD m j = x := ⟨_, rfl⟩
      simp only [hkk] at wkk wdd hben hpx hpy PNk PDk
      obtain ⟨dd, hdd⟩ : ∃ x, mm - kk = x := ⟨_, rfl⟩
      simp only [hdd] at wdd hben hpy PDk
      obtain ⟨BE, hBE⟩ : ∃ x, beN NN DD m (beD m j) = x := ⟨_, rfl⟩
      rw [hBE] at hnot htk hben
      have HBE := hid hBE; have HNT := hid hnot; have HTKj := hid htk
      obtain ⟨X, hX⟩ : ∃ x, NN ^ kk = x := ⟨_, rfl⟩
      obtain ⟨Y, hY⟩ : ∃ x, DD ^ dd = x := ⟨_, rfl⟩
      simp only [hX] at PNk
      simp only [hY] at PDk
      rw [hX, hY] at hben
      rw [hX] at hpx
      rw [hY] at hpy
      have mX : nDigits X ≤ nDigits BE := by rw [← hben]; exact nDigits_mono (Nat.le_mul_of_pos_right X hpy)
      have mY : nDigits Y ≤ nDigits BE := by rw [← hben]; exact nDigits_mono (Nat.le_mul_of_pos_left Y hpx)
      have MX := hid mX; have MY := hid mY; have HXY := hid hben
      have Xr := X4.out.call hB.out
      have x0 := Xr.cell 0
      have x1 := Xr.cell 1
      have x2 := Xr.cell 2
      simp at x0 x1 x2
      have NR := hid (N4.out.call hB.out); have DR := hid (D4.out.call hB.out)
      clear hbd hsq hbb hmm hnot htk hben hpx hpy hk hlt hkk hdd hBE hX hY mX mY hj hm16 Xr
      go_wp2_with fail
      refine (PNk _ _ NR.out).out.mono ?_; rintro e w5 ⟨hp5, hb5⟩
      have B5 := hid (bnext hB.out hb5)
      have y5 := hid (bnext y4.out B5.out)
      have O5 := hid (owns_call hO.out hb5)
      have D5 := hid (DR.out.call hb5)
      have X5 := hid ((X4.out.call hB.out).call hb5)
      clear hb5 x0 x1 x2
      have x0 := X5.out.cell 0
      have x1 := X5.out.cell 1
      have x2 := X5.out.cell 2
      simp at x0 x1 x2
      rcases hp5 with ⟨dX, v5, rfl, hv5⟩ | ⟨dX, rfl⟩
      · have V5 := hid hv5
        obtain ⟨a8, c8, rfl, -, -, -⟩ := hv5.openI
        have DX := hid dX
        clear hv5 dX
        go_wp2_with fail
        refine (PDk _ _ D5.out).out.mono ?_; rintro e w6 ⟨hp6, hb6⟩
        have B6 := hid (bnext B5.out hb6)
        have y6 := hid (bnext y4.out B6.out)
        have O6 := hid (owns_call O5.out hb6)
        have V6 := hid (V5.out.call hb6)
        clear hb6 x0 x1 x2
        rcases hp6 with ⟨dY, v6, rfl, hv6⟩ | ⟨dY, rfl⟩
        · have U6 := hid hv6
          obtain ⟨a9, c9, rfl, -, -, -⟩ := hv6.openI
          have DY := hid dY
          clear hv6 dY
          have PTk := PT _ _ _ _ _ V6.out U6.out DX.out DY.out
          rw [HXY.out] at PTk
          go_wp2_with fail
          refine PTk.out.mono ?_; rintro e w7 ⟨⟨v7, rfl, hv7⟩, hb7⟩
          have B7 := hid (bnext B6.out hb7)
          have O7 := hid (owns_call O6.out hb7)
          have V7 := hid hv7
          obtain ⟨ab, cb, rfl, -, -, -⟩ := hv7.openI
          have PWk := PW _ _ _ V7.out (by
            rw [← HXY.out]
            have h1 := DX.out; have h2 := DY.out
            have := nd_mul h1 h2 (by omega)
            omega)
          clear hb7 hv7
          go_wp2_with fail
          refine PWk.out.mono ?_; rintro e w8 ⟨rfl, hb8⟩
          have B8 := hid (bnext B7.out hb8)
          have y8 := hid (bnext y4.out B8.out)
          have O8 := hid (owns_call O7.out hb8)
          have hnv : numV BE = .string (numB BE) := rfl
          rw [hnv]
          have hsz := numB_size BE
          obtain ⟨WB, hWB⟩ : ∃ s, numB BE = s := ⟨_, rfl⟩
          rw [hWB] at hsz ⊢
          have HWB := hid hWB
          clear hb8 hnv hWB
          by_cases hlg : nDigits BE ≤ 3800
          · have q4 : decide ((3800 : Int) < (WB.size : Int)) = false := by simp; omega
            have HLG := hid hlg
            have hj8 := HJ.out; have hm8 := M16.out
            clear hlg hsz
            go_wp2_with (at_builtin; refine wpList_append_own _ rfl _ _ 36 rfl w4.heap.size 22 i0 (.string ⟨#[]⟩) 1 16 Tryz.underlying36 hi hz0 hz1 hz2 rfl (by decide) _ j _ rfl (O8.out.alloc _) ⟨w8.heap.size, 0, none⟩ 1 1 [.string WB] rfl rfl (cell_one_new w8 (.string WB) 22) (by simp [Value.oneCell']) (by unfold maxLen; omega) (by omega) (by have := B8.out.size; simp; omega) ?_; intro v' w9 hown9 hgrow9 _)
            have hO9 := hid (show w9.ownsRow w4.heap.size 22 1 v' (j + 1) (strs (((beL NN DD m).take (j + 1)).map numB)) by
              rw [HTKj.out, strs_append, HWB.out]; exact hown9)
            have hB9 : Hid (Below w4.heap.size w4 w9) := by
              refine (B8.out.alloc B8.out.size _).trans ⟨hgrow9.os, hgrow9.tape, hgrow9.output, hgrow9.size, fun k' hk' => hgrow9.block k' (by have := B8.out.size; simp; omega) (fun e => ?_)⟩
              have := (O8.out.lt k' e.symm).1
              omega
            clear hown9 hgrow9
            go_wp2_with fail
            go_roundw
            case rel => exact ⟨j + 1, k + 1, rfl, by have := HK.out; omega, by have := HJ.out; omega, fun i hi => by
              rcases Nat.lt_or_ge i j with h | h
              · exact hI.out i h
              · obtain rfl : i = j := by omega
                rw [HBE.out]; exact HLG.out, hO9, hB9⟩
            case measure => simp [intOf] <;> (have := HJ.out; have := HK.out; omega)
          · have q4 : decide ((3800 : Int) < (WB.size : Int)) = true := by simp; omega
            have e5 := hid (HNT.out (by omega))
            have eW := hid (HW5.out e5.out)
            clear hlg hsz
            go_wp2_with fail
            go_ret2
            exact ⟨⟨_, by rw [e5.out]; rfl, by rw [eW.out]; exact Row.nil _⟩, y8.out⟩
        · have y6' := y6
          have e5 := hid (HNT.out (by have := MY.out; omega))
          have eW := hid (HW5.out e5.out)
          clear dY
          go_wp2_with fail
          go_ret2
          exact ⟨⟨_, by rw [e5.out]; rfl, by rw [eW.out]; exact Row.nil _⟩, y6.out⟩
      · go_wp2_with fail
        refine (PDk _ _ D5.out).out.mono ?_; rintro e w6 ⟨hp6, hb6⟩
        have y6 := hid (bnext y5.out hb6)
        have e5 := hid (HNT.out (by have := MX.out; omega))
        have eW := hid (HW5.out e5.out)
        clear hb6 x0 x1 x2 dX
        rcases hp6 with ⟨dY, v6, rfl, hv6⟩ | ⟨dY, rfl⟩
        · obtain ⟨a9, c9, rfl, -, -, -⟩ := hv6.openI
          clear hv6 dY
          go_wp2_with fail
          go_ret2
          exact ⟨⟨_, by rw [e5.out]; rfl, by rw [eW.out]; exact Row.nil _⟩, y6.out⟩
        · clear dY
          go_wp2_with fail
          go_ret2
          exact ⟨⟨_, by rw [e5.out]; rfl, by rw [eW.out]; exact Row.nil _⟩, y6.out⟩
    · obtain rfl : j = 2 * m + 1 := by omega
      have t3 : decide (k ≤ (m : Int)) = false := decide_eq_false (by omega)
      have hE0 := HYES.out fun k hk => by
        have h := hI.out (m + k) (by omega)
        rwa [show beD m (m + k) = k by unfold beD; split <;> omega] at h
      have hW0 := HW.out hE0
      have hrow := Row.of_owns hO.out
      rw [List.take_of_length_le (by rw [HLL.out]; omega), ← hW0] at hrow
      have HE0 := hid hE0; have HR0 := hid hrow
      clear hlt hE0 hW0 hrow hj hk hm16
      go_wp2_with fail
      go_ret2
      exact ⟨⟨_, by rw [HE0.out]; rfl, HR0.out⟩, yr.out⟩
theorem r7_Weights (w : World) (q : ByteArray) (t : Int) (hq : q.size ≤ 100000) :
    Calls Tryz.prog 26 #[.string q, .int .i64 t] w fun e w' => (∃ u, e = .returned (.tuple #[u, .int .i64 (beE q t)]) ∧ Row w' u (strs (beW q t))) ∧ Below w.heap.size w w' := by
  by_cases h0 : qE q = 0
  · by_cases h1 : cW q = ⟨#[48]⟩ ∨ iM (cW q) = true ∨ bN (qD q) < bN (cW q) ∨ t < 0 ∨ 16 < t
    · exact rw_e2 w q t hq h0 h1
    · obtain ⟨m, rfl⟩ : ∃ m : Nat, t = (m : Nat) := ⟨t.toNat, by
        have : ¬ t < 0 := fun h => h1 (.inr (.inr (.inr (.inl h))))
        omega⟩
      exact rw_main w q m hq h0 h1
  · exact rw_e1 w q t hq h0
end Go.Proofs.YtpheklgnmbpobaaGreatDoor
namespace Go.Proofs.YtpheklgnmbpobaaGreatDoor
open Go.RowKit Go.Shelf
open Go.Lib (decDigits nDigits)
set_option linter.unusedVariables false
set_option linter.unusedSimpArgs false
def ltB (x z : ByteArray) : Bool := Op.bytesLess x.toList z.toList
def addL (L : List (ByteArray × ByteArray)) (key p : ByteArray) : List (ByteArray × ByteArray) :=
  if p = ⟨#[48]⟩ then L else L.takeWhile (fun x => ltB x.1 key) ++ (key, p) :: L.dropWhile (fun x => ltB x.1 key)
theorem take_cut {L : List (ByteArray × ByteArray)} {f : ByteArray × ByteArray → Bool} : ∀ {k : Nat}, (∀ j x, j < k → L[j]? = some x → f x = true) → (∀ x, L[k]? = some x → f x = false) → L.takeWhile f = L.take k ∧ L.dropWhile f = L.drop k := by
  induction L with
  | nil => intro k _ _; simp
  | cons a r ih =>
    intro k h1 h2
    cases k with
    | zero =>
      have := h2 a (by simp)
      simp [this]
    | succ k =>
      have ha := h1 0 a (by omega) (by simp)
      obtain ⟨e1, e2⟩ := ih (k := k) (fun j x hj hx => h1 (j + 1) x (by omega) (by simpa using hx)) (fun x hx => h2 x (by simpa using hx))
      simp [ha, e1, e2]
theorem step_append_any {P : Program} (w : World) {ops : Array Oper} {o : Oper} {a : Act} {K : Act → World → Prop} {Q : Exit → Act → World → Prop} {E : Prop} (hgd : o.guard = none) (s x : Operand) (t : TypeId)
    (ho : o.op = .call { callee := .builtin .append, args := #[s, x], argTypes := #[t, t] })
    (base : Nat) (e : TypeId) (i : TypeInfo) (z : Value) (size bytes : Nat) (ht : P.underlying t = some (.slice e)) (hi : P.info? e = some i) (hz : i.zero = some z)
    (hsize : i.size = size) (hby : i.bytes = bytes) (hzs : z.cells.size = size) (hsz : 0 < size)
    (v : Value) (n : Nat) (xs : List Value) (hs : a.eval s = v) (hown : w.ownsRow base e size v n xs) (hv : v ≠ .slice none 0 0)
    (ao : Option Addr) (m c : Nat) (news : List Value) (hx : a.eval x = .slice ao m c) (hl : news.length = m * size) (hnews : ∀ j u, news[j]? = some u → ∃ ad, ao = some ad ∧ w.cell? (ad.add j) = some u) (h1 : ∀ u ∈ news, u.oneCell' = true)
    (h63 : n + m ≤ maxLen) (hbytes : (n + m) * bytes ≤ 140737488355328) (hbase : base ≤ w.heap.size)
    (h : ∀ v' w', w'.ownsRow base e size v' (n + m) (xs ++ news) → w.grownBy w' v.ownBlock → v' ≠ .slice none 0 0 → K (a.put o.dst v') w') :
    if Region.wanted o (yielded ops a.tmps) = true then Oper.wp P o a w K Q else E := by
  have hw : Region.wanted o (yielded ops a.tmps) = true := by simp [Region.wanted, hgd]
  rw [if_pos hw]
  have key : ∃ v' w', (Builtin.append_ #[t, t] o.type #[v, .slice ao m c]).run P w = .ok v' w' ∧ w'.ownsRow base e size v' (n + m) (xs ++ news) ∧ w.grownBy w' v.ownBlock ∧ v' ≠ .slice none 0 0 := by
    cases ao with
    | some ad =>
      obtain ⟨v', w', hr, k1, k2, k3, -⟩ := run_append_own_at (P := P) w base t o.type e i z size bytes ht hi hz hsize hby hzs hsz v n xs hown ad m c news hl (fun j u hu => by obtain ⟨ad', e', hc⟩ := hnews j u hu; cases e'; exact hc) h1 h63 hbytes hbase
      exact ⟨v', w', hr, k1, k2, fun e => hv (k3.1 e).1⟩
    | none =>
      have hn : news = [] := by
        cases news with
        | nil => rfl
        | cons u r => obtain ⟨ad, e, _⟩ := hnews 0 u rfl; cases e
      subst hn
      have hm : m = 0 := by
        rcases Nat.eq_zero_or_pos m with h | h
        · exact h
        · have := Nat.mul_pos h hsz; simp at hl; omega
      subst hm
      refine ⟨v, w, ?_, by simpa using hown, ⟨rfl, rfl, rfl, Nat.le_refl _, fun _ _ _ => rfl⟩, hv⟩
      rcases hown.2 with ⟨e, _⟩ | ⟨g, cap, cur, rfl, hb, hg, h1', h2', h3', h4'⟩
      · exact absurd e hv
      · simp [Builtin.append_, run_underlying ht, sizeOf, typeInfo, hi, Builtin.lenOf, Builtin.firstCells, loadCells, loadCellsFrom, storeCells, h1']
  obtain ⟨v', w', hr, h2, h3, h4⟩ := key
  unfold Oper.wp execOp
  simp only [ho, resolve, invoke, builtin, Sem.run_bind, Sem.run_pure, Result.andThen_ok, List.map_toArray, List.map_cons, List.map_nil, hs, hx, hr]
  exact h v' w' h2 h3 h4
theorem massC_one (M : List (ByteArray × ByteArray)) : ∀ u ∈ massC M, u.oneCell' = true := by
  intro u hu
  obtain ⟨x, _, hx⟩ := List.mem_flatMap.1 hu
  simp at hx
  rcases hx with rfl | rfl <;> rfl
theorem massC_append_one (M : List (ByteArray × ByteArray)) (x y : ByteArray) : massC (M ++ [(x, y)]) = massC M ++ [.string x, .string y] := massC_append _ _
theorem massC_cells {W : World} {g : Nat} : ∀ {M : List (ByteArray × ByteArray)} {O : Nat}, (∀ (i : Nat) (y : ByteArray × ByteArray), M[i]? = some y → W.cell? ⟨g, O + 2 * i, none⟩ = some (.string y.1) ∧ W.cell? ⟨g, O + 2 * i + 1, none⟩ = some (.string y.2)) → ∀ (j : Nat) (u : Value), (massC M)[j]? = some u → W.cell? ⟨g, O + j, none⟩ = some u := by
  intro M
  induction M with
  | nil => intro O _ j u hu; simp [massC] at hu
  | cons q r ih =>
    intro O h j u hu
    have e : massC (q :: r) = .string q.1 :: .string q.2 :: massC r := rfl
    rw [e] at hu
    match j, hu with
    | 0, hu => simp at hu; subst hu; exact (h 0 q rfl).1
    | 1, hu => simp at hu; subst hu; exact (h 0 q rfl).2
    | j + 2, hu =>
      have := ih (O := O + 2) (fun i y hy => by
        have := h (i + 1) y (by simpa using hy)
        rw [show O + 2 * (i + 1) = O + 2 + 2 * i by omega] at this
        exact this) j u (by simpa using hu)
      rw [show O + (j + 2) = O + 2 + j by omega]
      exact this
theorem mass_at {W : World} {B : Nat} {x y : ByteArray} {t : TypeId} {fr : Nat × Nat} (h : W.heap[B]? = some (.cells #[.string x, .string y] t fr)) : ∀ (j : Nat) (u : Value), [Value.string x, Value.string y][j]? = some u → ∃ ad, some (⟨B, 0, none⟩ : Addr) = some ad ∧ W.cell? (ad.add j) = some u := fun j u hu => ⟨_, rfl, World.news_of_block h j u hu⟩
theorem own_below2 {w0 W w3 : World} {t : TypeId} {z : Nat} {v : Value} {m : Nat} {vs : List Value} (h : W.ownsRow w0.heap.size t z v m vs) (h0 : Below w0.heap.size w0 W) (hg : W.grownBy w3 v.ownBlock) : Below w0.heap.size w0 w3 := by
  refine h0.trans ⟨hg.os, hg.tape, hg.output, hg.size, fun j hj => hg.block j (Nat.lt_of_lt_of_le hj h0.size) fun e => ?_⟩
  have := (h.lt j e.symm).1
  omega
theorem own_zero_at {w X : World} {B : Nat} {t : TypeId} (hB : X.heap.size = B) (h : w.heap.size ≤ X.heap.size) : (X.alloc (.cells #[] t)).ownsRow w.heap.size t 2 (.slice (some ⟨B, 0, none⟩) 0 0) 0 [] := by subst hB; exact World.ownsRow_made _ _ 0 h (by unfold maxLen; omega) rfl
set_option maxRecDepth 100000 in
set_option maxHeartbeats 2000000 in
theorem r4_Add (w : World) (v : Value) (L : List (ByteArray × ByteArray)) (key p : ByteArray) (hv : MRow w v L) (hn : L.length ≤ 1000) :
    Calls Tryz.prog 116 #[v, .string key, .string p] w fun e w' => (∃ u, e = .returned u ∧ MRow w' u (addL L key p)) ∧ Below w.heap.size w w' := by
  obtain ⟨i0, hi, hz0, hz1, hz2⟩ := info_parts info_mass
  have HV := hid hv
  obtain ⟨a, c, rfl, h1, h2, h3⟩ := hv.ex
  obtain ⟨n, hN⟩ : ∃ n, L.length = n := ⟨_, rfl⟩
  rw [hN] at h1 HV hn ⊢
  have HN := hid hN; have H3 := hid h3
  clear hv h3 hN
  by_cases hp : p = ⟨#[48]⟩
  · have e : Hid (addL L key p = L) := by show addL L key p = L; rw [addL, if_pos hp]
    rw [e.out]
    have q0 : (p.toList == [48]) = true := by subst hp; rw [Lib.toList_data]; rfl
    clear hp e
    go_enter Tryz.func116, Tryz.ntmps116
    go_wp2_with fail
    go_ret
    exact ⟨⟨_, rfl, HV.out⟩, Below.refl _ _⟩
  · have E : Hid (addL L key p = L.takeWhile (fun x => ltB x.1 key) ++ (key, p) :: L.dropWhile (fun x => ltB x.1 key)) := by show addL L key p = _; rw [addL, if_neg hp]
    have q0 : (p.toList == [48]) = false := ne_lit hp
    rw [E.out]
    clear hp E
    go_enter Tryz.func116, Tryz.ntmps116
    go_wp2_with fail
    go_loop [7] (fun ii => ∃ k : Nat, ii = .int .i64 k ∧ k ≤ n ∧ Hid (∀ j x, j < k → L[j]? = some x → ltB x.1 key = true)) (fun ii => n - (intOf ii).toNat)
    case atStart => exact ⟨0, rfl, Nat.zero_le _, fun j x hj => absurd hj (by omega)⟩
    case round =>
      obtain ⟨k, rfl, hk, hI⟩ := hrel
      have c1 : (0 : Int) ≤ (k : Int) := by omega
      by_cases hlt : k < n
      · obtain ⟨x, hx⟩ : ∃ x, L[k]? = some x := ⟨_, List.getElem?_eq_getElem (by rw [HN.out]; exact hlt)⟩
        obtain ⟨g, o, rfl, hg, hc, -⟩ := H3.out k x hx
        have HX := hid hx
        rw [Nat.mul_comm 2 k] at hc
        have c2 : (k : Int) < (n : Int) := by omega
        have wi : IntKind.i64.wrap ((k : Int) + 1) = ((k + 1 : Nat) : Int) := by rw [IntWalk.i64_in _ ⟨by omega, by omega⟩]; omega
        obtain ⟨lb, hlb⟩ : ∃ b, Op.bytesLess x.1.toList key.toList = b := ⟨_, rfl⟩
        have HLB := hid (show ltB x.1 key = lb from hlb)
        clear hx
        have SRC1 : Hid (∀ W, Below w.heap.size w W → ∀ j u, (massC (L.take k))[j]? = some u → ∃ ad, some (⟨g, o, none⟩ : Addr) = some ad ∧ W.cell? (ad.add j) = some u) := fun W hW j u hu => by
          refine ⟨_, rfl, ?_⟩
          rw [Addr.add_lit]
          refine massC_cells (fun i y hy => ?_) j u hu
          rw [List.getElem?_take] at hy
          split at hy
          · obtain ⟨g', o', e, k0, k1, k2⟩ := H3.out i y hy
            simp only [Option.some.injEq, Addr.mk.injEq] at e
            obtain ⟨rfl, rfl, -⟩ := e
            exact ⟨(hW.cell (p := ⟨g, _, none⟩) hg).trans k1, (hW.cell (p := ⟨g, _, none⟩) hg).trans k2⟩
          · cases hy
        have SRC2 : Hid (∀ W, Below w.heap.size w W → ∀ j u, (massC (L.drop k))[j]? = some u → ∃ ad, some (⟨g, o + k * 2, none⟩ : Addr) = some ad ∧ W.cell? (ad.add j) = some u) := fun W hW j u hu => by
          refine ⟨_, rfl, ?_⟩
          rw [Addr.add_lit]
          refine massC_cells (fun i y hy => ?_) j u hu
          rw [List.getElem?_drop] at hy
          obtain ⟨g', o', e, k0, k1, k2⟩ := H3.out _ y hy
          simp only [Option.some.injEq, Addr.mk.injEq] at e
          obtain ⟨rfl, rfl, -⟩ := e
          rw [show o + 2 * (k + i) = o + k * 2 + 2 * i by omega] at k1 k2
          exact ⟨(hW.cell (p := ⟨g, _, none⟩) hg).trans k1, (hW.cell (p := ⟨g, _, none⟩) hg).trans k2⟩
        have SL1 : Hid ((massC (L.take k)).length = k * 2) := by show _ = _; rw [massC_length, List.length_take_of_le (by rw [HN.out]; omega)]
        have SL2 : Hid ((massC (L.drop k)).length = (n - k) * 2) := by show _ = _; rw [massC_length, List.length_drop, HN.out]
        have MZ2 : Hid (((w.alloc (.cells #[] 31)).alloc (.cells #[.string key, .string p] 31)).drew.heap[w.heap.size + 1]? = some (.cells #[.string key, .string p] 31 (0, 0))) := by
          have := heap_alloc_new (w.alloc (.cells #[] 31)) (.cells #[.string key, .string p] 31)
          rw [show (w.alloc (.cells #[] 31)).heap.size = w.heap.size + 1 from by simp] at this
          exact this
        have MZ3 : Hid (((w.alloc (.cells #[.string key, .string p] 31)).alloc (.cells #[] 31)).drew.heap[w.heap.size]? = some (.cells #[.string key, .string p] 31 (0, 0))) := (heap_alloc_old (w.alloc (.cells #[.string key, .string p] 31)) (.cells #[] 31) (by simp)).trans (heap_alloc_new w (.cells #[.string key, .string p] 31))
        have d1 : (k : Int) ≤ (c : Int) := by omega
        have d2 : (k : Int) ≤ (n : Int) := by omega
        have d3 : (n : Int) ≤ (c : Int) := by omega
        have d4 : ¬ c = k := by omega
        cases lb
        · have TK := hid (take_cut (L := L) (f := fun x => ltB x.1 key) (k := k) hI.out (fun y hy => by have := HX.out; rw [hy] at this; cases this; exact HLB.out))
          go_wp2_with fail
          go_region_held3 (fun _ => True) (first | trivial)
            (first
              | (refine step_append_any _ rfl _ _ _ rfl w.heap.size 31 i0 _ 2 32 Tryz.underlying26 hi hz0 hz1 hz2 rfl (by decide) (.slice (some ⟨_, 0, none⟩) 0 0) 0 [] rfl (by first | exact (own_zero_at rfl (Nat.le_refl _)).drew | exact ((own_zero_at rfl (Nat.le_refl _)).alloc _).drew | exact (own_zero_at (by simp) (by simp)).drew) (by intro e; cases e) (some ⟨g, o, none⟩) k c (massC (L.take k)) rfl SL1.out (SRC1.out _ (by first | exact ((Below.refl _ _).alloc (Nat.le_refl _) _).drew | exact (((Below.refl _ _).alloc (Nat.le_refl _) _).alloc (by simp) _).drew)) (massC_one _) (by unfold maxLen; omega) (by omega) (by simp <;> omega) ?_; intro v1 w1 hown1 hg1 hne1; have B1 : Hid (Below w.heap.size w w1) := own_below2 (w0 := w) (w3 := w1) (by first | exact (own_zero_at rfl (Nat.le_refl _)).drew | exact ((own_zero_at rfl (Nat.le_refl _)).alloc _).drew | exact (own_zero_at (by simp) (by simp)).drew) (by first | exact ((Below.refl _ _).alloc (Nat.le_refl _) _).drew | exact (((Below.refl _ _).alloc (Nat.le_refl _) _).alloc (by simp) _).drew) hg1; have O1 := hid (show w1.ownsRow w.heap.size 31 2 v1 k (massC (L.take k)) from by rw [Nat.zero_add] at hown1; exact hown1); have NE1 := hid hne1; have HG1 := hid hg1; clear hown1 hg1 hne1)
              | (refine step_append_any _ rfl _ _ _ rfl w.heap.size 31 i0 _ 2 32 Tryz.underlying26 hi hz0 hz1 hz2 rfl (by decide) v1 k _ rfl (by first | exact O1.out | exact O1.out.alloc _) NE1.out (some ⟨_, 0, none⟩) 1 1 [.string key, .string p] rfl rfl (mass_at (by first | exact heap_alloc_new _ _ | exact (HG1.out.block (w.heap.size + 1) (by simp <;> omega) (by simp [Value.ownBlock])).trans MZ2.out | exact (HG1.out.block w.heap.size (by simp <;> omega) (by simp [Value.ownBlock])).trans MZ3.out)) (by simp [Value.oneCell']) (by unfold maxLen; omega) (by omega) (by first | exact B1.out.size | exact (B1.out.alloc B1.out.size _).size) ?_; intro v2 w2 hown2 hg2 hne2; have B2 : Hid (Below w.heap.size w w2) := own_below2 (w0 := w) (w3 := w2) (by first | exact O1.out | exact O1.out.alloc _) (by first | exact B1.out | exact B1.out.alloc B1.out.size _) hg2; have O2 := hid hown2; have NE2 := hid hne2; clear hown2 hg2 hne2)
              | (refine step_append_any _ rfl _ _ _ rfl w.heap.size 31 i0 _ 2 32 Tryz.underlying26 hi hz0 hz1 hz2 rfl (by decide) v2 (k + 1) _ rfl O2.out NE2.out (some ⟨g, o + k * 2, none⟩) (n - k) (c - k) (massC (L.drop k)) rfl SL2.out (SRC2.out _ B2.out) (massC_one _) (by unfold maxLen; omega) (by omega) (by exact B2.out.size) ?_; intro v3 w3 hown3 hg3 hne3; have O3 := hid hown3; have B3 : Hid (Below w.heap.size w w3) := own_below2 (w0 := w) (w3 := w3) O2.out B2.out hg3; clear hown3 hg3 hne3))
          all_goals
            have OF := O3.out
            rw [← massC_append_one, ← massC_append] at OF
            go_wp2_with fail
            all_goals
              go_ret
              refine ⟨⟨_, rfl, ?_⟩, B3.out⟩
              rw [TK.out.1, TK.out.2]
              have := MRow.of_owns OF
              rwa [List.append_assoc] at this

        · go_wp2_with fail
          go_round
          case rel =>
            refine ⟨k + 1, by go_num, by omega, fun j y hj hy => ?_⟩
            rcases Nat.lt_or_ge j k with h | h
            · exact hI.out j y h hy
            · obtain rfl : j = k := by omega
              have := HX.out; rw [hy] at this; cases this; exact HLB.out
          case measure => simp [intOf] <;> omega
      · obtain rfl : k = n := by omega
        have SRC1 : Hid (∀ W, Below w.heap.size w W → ∀ j u, (massC (L.take k))[j]? = some u → ∃ ad, a = some ad ∧ W.cell? (ad.add j) = some u) := fun W hW j u hu => by
          obtain ⟨x0, hx0⟩ : ∃ x0, L[0]? = some x0 := by
            cases hL : L with
            | nil => rw [hL] at hu; simp [massC] at hu
            | cons x r => exact ⟨x, rfl⟩
          obtain ⟨g, o, rfl, hg, -, -⟩ := H3.out 0 x0 hx0
          refine ⟨_, rfl, ?_⟩
          rw [Addr.add_lit]
          refine massC_cells (fun i y hy => ?_) j u hu
          rw [List.getElem?_take] at hy
          split at hy
          · obtain ⟨g', o', e, k0, k1, k2⟩ := H3.out i y hy
            simp only [Option.some.injEq, Addr.mk.injEq] at e
            obtain ⟨rfl, rfl, -⟩ := e
            exact ⟨(hW.cell (p := ⟨g, _, none⟩) hg).trans k1, (hW.cell (p := ⟨g, _, none⟩) hg).trans k2⟩
          · cases hy
        have DN : Hid (L.drop k = []) := List.drop_eq_nil_of_le (by rw [HN.out]; exact Nat.le_refl _)
        have SRC2 : Hid (∀ (ao : Option Addr) W, Below w.heap.size w W → ∀ j u, (massC (L.drop k))[j]? = some u → ∃ ad, ao = some ad ∧ W.cell? (ad.add j) = some u) := fun ao W hW j u hu => by
          rw [DN.out] at hu; simp [massC] at hu
        have SL1 : Hid ((massC (L.take k)).length = k * 2) := by show _ = _; rw [massC_length, List.length_take_of_le (by rw [HN.out]; exact Nat.le_refl _)]
        have SL2 : Hid ((massC (L.drop k)).length = 0 * 2) := by show _ = _; rw [DN.out]; rfl
        have MZ2 : Hid (((w.alloc (.cells #[] 31)).alloc (.cells #[.string key, .string p] 31)).drew.heap[w.heap.size + 1]? = some (.cells #[.string key, .string p] 31 (0, 0))) := by
          have := heap_alloc_new (w.alloc (.cells #[] 31)) (.cells #[.string key, .string p] 31)
          rw [show (w.alloc (.cells #[] 31)).heap.size = w.heap.size + 1 from by simp] at this
          exact this
        have MZ3 : Hid (((w.alloc (.cells #[.string key, .string p] 31)).alloc (.cells #[] 31)).drew.heap[w.heap.size]? = some (.cells #[.string key, .string p] 31 (0, 0))) := (heap_alloc_old (w.alloc (.cells #[.string key, .string p] 31)) (.cells #[] 31) (by simp)).trans (heap_alloc_new w (.cells #[.string key, .string p] 31))
        have d1 : (k : Int) ≤ (c : Int) := by omega
        have d2 : (k : Int) ≤ (k : Int) := by omega
        have TK := hid (take_cut (L := L) (f := fun x => ltB x.1 key) (k := k) hI.out (fun y hy => by rw [List.getElem?_eq_none (by rw [HN.out]; exact Nat.le_refl _)] at hy; cases hy))
        cases a
        · go_wp2_with fail
          go_region_held3 (fun _ => True) (first | trivial)
            (first
              | (refine step_append_any _ rfl _ _ _ rfl w.heap.size 31 i0 _ 2 32 Tryz.underlying26 hi hz0 hz1 hz2 rfl (by decide) (.slice (some ⟨_, 0, none⟩) 0 0) 0 [] rfl (by first | exact (own_zero_at rfl (Nat.le_refl _)).drew | exact ((own_zero_at rfl (Nat.le_refl _)).alloc _).drew | exact (own_zero_at (by simp) (by simp)).drew) (by intro e; cases e) _ k c (massC (L.take k)) rfl SL1.out (SRC1.out _ (by first | exact ((Below.refl _ _).alloc (Nat.le_refl _) _).drew | exact (((Below.refl _ _).alloc (Nat.le_refl _) _).alloc (by simp) _).drew)) (massC_one _) (by unfold maxLen; omega) (by omega) (by simp <;> omega) ?_; intro v1 w1 hown1 hg1 hne1; have B1 : Hid (Below w.heap.size w w1) := own_below2 (w0 := w) (w3 := w1) (by first | exact (own_zero_at rfl (Nat.le_refl _)).drew | exact ((own_zero_at rfl (Nat.le_refl _)).alloc _).drew | exact (own_zero_at (by simp) (by simp)).drew) (by first | exact ((Below.refl _ _).alloc (Nat.le_refl _) _).drew | exact (((Below.refl _ _).alloc (Nat.le_refl _) _).alloc (by simp) _).drew) hg1; have O1 := hid (show w1.ownsRow w.heap.size 31 2 v1 k (massC (L.take k)) from by rw [Nat.zero_add] at hown1; exact hown1); have NE1 := hid hne1; have HG1 := hid hg1; clear hown1 hg1 hne1)
              | (refine step_append_any _ rfl _ _ _ rfl w.heap.size 31 i0 _ 2 32 Tryz.underlying26 hi hz0 hz1 hz2 rfl (by decide) v1 k _ rfl (by first | exact O1.out | exact O1.out.alloc _) NE1.out (some ⟨_, 0, none⟩) 1 1 [.string key, .string p] rfl rfl (mass_at (by first | exact heap_alloc_new _ _ | exact (HG1.out.block (w.heap.size + 1) (by simp <;> omega) (by simp [Value.ownBlock])).trans MZ2.out | exact (HG1.out.block w.heap.size (by simp <;> omega) (by simp [Value.ownBlock])).trans MZ3.out)) (by simp [Value.oneCell']) (by unfold maxLen; omega) (by omega) (by first | exact B1.out.size | exact (B1.out.alloc B1.out.size _).size) ?_; intro v2 w2 hown2 hg2 hne2; have B2 : Hid (Below w.heap.size w w2) := own_below2 (w0 := w) (w3 := w2) (by first | exact O1.out | exact O1.out.alloc _) (by first | exact B1.out | exact B1.out.alloc B1.out.size _) hg2; have O2 := hid hown2; have NE2 := hid hne2; clear hown2 hg2 hne2)
              | (refine step_append_any _ rfl _ _ _ rfl w.heap.size 31 i0 _ 2 32 Tryz.underlying26 hi hz0 hz1 hz2 rfl (by decide) v2 (k + 1) _ rfl O2.out NE2.out _ 0 _ (massC (L.drop k)) rfl SL2.out (SRC2.out _ _ B2.out) (massC_one _) (by unfold maxLen; omega) (by omega) (by exact B2.out.size) ?_; intro v3 w3 hown3 hg3 hne3; have O3 := hid hown3; have B3 : Hid (Below w.heap.size w w3) := own_below2 (w0 := w) (w3 := w3) O2.out B2.out hg3; clear hown3 hg3 hne3))
          all_goals
            have OF := O3.out
            rw [← massC_append_one, ← massC_append] at OF
            go_wp2_with fail
            all_goals
              go_ret
              refine ⟨⟨_, rfl, ?_⟩, B3.out⟩
              rw [TK.out.1, TK.out.2]
              have := MRow.of_owns OF
              rwa [List.append_assoc] at this

        · go_wp2_with fail
          go_region_held3 (fun _ => True) (first | trivial)
            (first
              | (refine step_append_any _ rfl _ _ _ rfl w.heap.size 31 i0 _ 2 32 Tryz.underlying26 hi hz0 hz1 hz2 rfl (by decide) (.slice (some ⟨_, 0, none⟩) 0 0) 0 [] rfl (by first | exact (own_zero_at rfl (Nat.le_refl _)).drew | exact ((own_zero_at rfl (Nat.le_refl _)).alloc _).drew | exact (own_zero_at (by simp) (by simp)).drew) (by intro e; cases e) _ k c (massC (L.take k)) rfl SL1.out (SRC1.out _ (by first | exact ((Below.refl _ _).alloc (Nat.le_refl _) _).drew | exact (((Below.refl _ _).alloc (Nat.le_refl _) _).alloc (by simp) _).drew)) (massC_one _) (by unfold maxLen; omega) (by omega) (by simp <;> omega) ?_; intro v1 w1 hown1 hg1 hne1; have B1 : Hid (Below w.heap.size w w1) := own_below2 (w0 := w) (w3 := w1) (by first | exact (own_zero_at rfl (Nat.le_refl _)).drew | exact ((own_zero_at rfl (Nat.le_refl _)).alloc _).drew | exact (own_zero_at (by simp) (by simp)).drew) (by first | exact ((Below.refl _ _).alloc (Nat.le_refl _) _).drew | exact (((Below.refl _ _).alloc (Nat.le_refl _) _).alloc (by simp) _).drew) hg1; have O1 := hid (show w1.ownsRow w.heap.size 31 2 v1 k (massC (L.take k)) from by rw [Nat.zero_add] at hown1; exact hown1); have NE1 := hid hne1; have HG1 := hid hg1; clear hown1 hg1 hne1)
              | (refine step_append_any _ rfl _ _ _ rfl w.heap.size 31 i0 _ 2 32 Tryz.underlying26 hi hz0 hz1 hz2 rfl (by decide) v1 k _ rfl (by first | exact O1.out | exact O1.out.alloc _) NE1.out (some ⟨_, 0, none⟩) 1 1 [.string key, .string p] rfl rfl (mass_at (by first | exact heap_alloc_new _ _ | exact (HG1.out.block (w.heap.size + 1) (by simp <;> omega) (by simp [Value.ownBlock])).trans MZ2.out | exact (HG1.out.block w.heap.size (by simp <;> omega) (by simp [Value.ownBlock])).trans MZ3.out)) (by simp [Value.oneCell']) (by unfold maxLen; omega) (by omega) (by first | exact B1.out.size | exact (B1.out.alloc B1.out.size _).size) ?_; intro v2 w2 hown2 hg2 hne2; have B2 : Hid (Below w.heap.size w w2) := own_below2 (w0 := w) (w3 := w2) (by first | exact O1.out | exact O1.out.alloc _) (by first | exact B1.out | exact B1.out.alloc B1.out.size _) hg2; have O2 := hid hown2; have NE2 := hid hne2; clear hown2 hg2 hne2)
              | (refine step_append_any _ rfl _ _ _ rfl w.heap.size 31 i0 _ 2 32 Tryz.underlying26 hi hz0 hz1 hz2 rfl (by decide) v2 (k + 1) _ rfl O2.out NE2.out _ 0 _ (massC (L.drop k)) rfl SL2.out (SRC2.out _ _ B2.out) (massC_one _) (by unfold maxLen; omega) (by omega) (by exact B2.out.size) ?_; intro v3 w3 hown3 hg3 hne3; have O3 := hid hown3; have B3 : Hid (Below w.heap.size w w3) := own_below2 (w0 := w) (w3 := w3) O2.out B2.out hg3; clear hown3 hg3 hne3))
          all_goals
            have OF := O3.out
            rw [← massC_append_one, ← massC_append] at OF
            go_wp2_with fail
            all_goals
              go_ret
              refine ⟨⟨_, rfl, ?_⟩, B3.out⟩
              rw [TK.out.1, TK.out.2]
              have := MRow.of_owns OF
              rwa [List.append_assoc] at this
end Go.Proofs.YtpheklgnmbpobaaGreatDoor
namespace Go.Proofs.YtpheklgnmbpobaaGreatDoor
open Go.RowKit Go.Shelf
open Go.Lib (decDigits nDigits)
set_option linter.unusedVariables false
theorem ltB_iff {x z : ByteArray} : ltB x z = true ↔ ¬ z.data.toList ≤ x.data.toList := by
  unfold ltB
  rw [bytesLess_eq, Lib.toList_data, Lib.toList_data, decide_eq_true_eq]
  exact List.not_le.symm
theorem drop_while_ge {key : ByteArray} : ∀ {L : List (ByteArray × ByteArray)}, L.Pairwise (fun p q => leB (keyL p) (keyL q) = true) → ∀ x ∈ L.dropWhile (fun x => ltB x.1 key), leB key.data.toList (keyL x) = true := by
  intro L
  induction L with
  | nil => intro _ x hx; simp at hx
  | cons a r ih =>
    intro h x hx
    obtain ⟨h1, h2⟩ := List.pairwise_cons.1 h
    by_cases ha : ltB a.1 key = true
    · rw [List.dropWhile_cons, if_pos ha] at hx
      exact ih h2 x hx
    · rw [List.dropWhile_cons, if_neg ha] at hx
      have hle : leB key.data.toList (keyL a) = true := by
        have := mt ltB_iff.2 ha
        unfold leB
        rw [decide_eq_true_eq]
        exact Decidable.not_not.1 this
      rcases List.mem_cons.1 hx with rfl | hx
      · exact hle
      · exact leB_trans _ _ _ hle (h1 x hx)
theorem mem_tw {α : Type} {f : α → Bool} {x : α} : ∀ {L : List α}, x ∈ L.takeWhile f → f x = true := by
  intro L
  induction L with
  | nil => intro h; simp at h
  | cons a r ih =>
    intro h
    by_cases ha : f a = true
    · rw [List.takeWhile_cons, if_pos ha] at h
      rcases List.mem_cons.1 h with rfl | h
      · exact ha
      · exact ih h
    · rw [List.takeWhile_cons, if_neg ha] at h; simp at h
theorem pw_inj {L : List (ByteArray × ByteArray)} : L.Pairwise (fun x y => x.1 ≠ y.1) → ∀ x ∈ L, ∀ y ∈ L, x.1 = y.1 → x = y := by
  induction L with
  | nil => intro _ x hx; simp at hx
  | cons a r ih =>
    intro h x hx y hy e
    obtain ⟨h1, h2⟩ := List.pairwise_cons.1 h
    rcases List.mem_cons.1 hx with e1 | hx' <;> rcases List.mem_cons.1 hy with e2 | hy'
    · rw [e1, e2]
    · rw [e1] at e; exact absurd e (h1 y hy')
    · rw [e2] at e; exact absurd e.symm (h1 x hx')
    · exact ih h2 x hx' y hy' e
theorem take_while_lt {key : ByteArray} {L : List (ByteArray × ByteArray)} : ∀ x ∈ L.takeWhile (fun x => ltB x.1 key), leB (keyL x) key.data.toList = true := fun x hx => by
  have h := mem_tw hx
  have := ltB_iff.1 h
  unfold leB
  rw [decide_eq_true_eq]
  rcases List.le_total (keyL x) key.data.toList with h' | h'
  · exact h'
  · exact absurd h' this
theorem addL_sort {L : List (ByteArray × ByteArray)} {key p : ByteArray} (hp : p ≠ ⟨#[48]⟩) (hk : ∀ x ∈ L, x.1 ≠ key) (hn : L.Pairwise (fun x y => x.1 ≠ y.1)) : addL (sortM L) key p = sortM (L ++ [(key, p)]) := by
  rw [addL, if_neg hp]
  have hs := sortM_sorted L
  have hperm : ((sortM L).takeWhile (fun x => ltB x.1 key) ++ (key, p) :: (sortM L).dropWhile (fun x => ltB x.1 key)).Perm (sortM (L ++ [(key, p)])) := by
    refine List.Perm.trans List.perm_middle ?_
    rw [List.takeWhile_append_dropWhile]
    refine List.Perm.trans ?_ (List.mergeSort_perm _ _).symm
    exact (List.Perm.cons _ (List.mergeSort_perm _ _)).trans (List.perm_append_singleton _ _).symm
  have hinj : ∀ x ∈ L ++ [(key, p)], ∀ y ∈ L ++ [(key, p)], x.1 = y.1 → x = y := by
    have hpw : (L ++ [(key, p)]).Pairwise (fun x y => x.1 ≠ y.1) := by
      rw [List.pairwise_append]
      exact ⟨hn, by simp, fun a ha b hb => by simp at hb; subst hb; exact hk a ha⟩
    exact pw_inj hpw
  refine List.Perm.eq_of_pairwise (le := fun p q => leB (keyL p) (keyL q) = true) ?_ ?_ (sortM_sorted _) hperm
  · intro a b ha hb h1 h2
    have ha' : a ∈ L ++ [(key, p)] := sortM_mem.1 (hperm.mem_iff.1 ha)
    have hb' : b ∈ L ++ [(key, p)] := sortM_mem.1 hb
    refine hinj a ha' b hb' ?_
    simp only [leB, decide_eq_true_eq] at h1 h2
    exact ba_ext (List.le_antisymm h1 h2)
  · rw [List.pairwise_append]
    refine ⟨hs.sublist (List.takeWhile_sublist _), ?_, fun a ha b hb => ?_⟩
    · rw [List.pairwise_cons]
      exact ⟨fun x hx => drop_while_ge hs x hx, hs.sublist (List.dropWhile_sublist _)⟩
    · have h1 := take_while_lt a ha
      rcases List.mem_cons.1 hb with rfl | hb
      · exact h1
      · exact leB_trans _ _ _ h1 (drop_while_ge hs b hb)
end Go.Proofs.YtpheklgnmbpobaaGreatDoor
namespace Go.Proofs.YtpheklgnmbpobaaGreatDoor
open Go.RowKit Go.Shelf
open Go.Lib (decDigits nDigits)
set_option linter.unusedVariables false
theorem shB_ne {a b : Nat} (hb : b ≠ 0) (h1 : nDigits a ≤ 4000) (h2 : nDigits b ≤ 4000) (ha : a ≠ 0) : shB a b ≠ ⟨#[48]⟩ := fun e => by
  rw [← shB_zero b, shB_tx hb h1 h2, shB_tx hb (by rw [nDigits_zero]; omega) h2] at e
  have e' := congrArg vQ e
  rw [vQ_txQ, vQ_txQ] at e'
  have h3 := (Rat.mkRat_eq_iff hb hb).1 e'
  have h4 : ((a * b : Nat) : Int) = 0 := by rw [Int.natCast_mul, h3]; simp
  have hp : 0 < a * b := Nat.mul_pos (by omega) (by omega)
  omega
theorem nodup_pw {L : List (ByteArray × ByteArray)} (h : (L.map keyL).Nodup) : L.Pairwise (fun x y => x.1 ≠ y.1) := by
  rw [List.Nodup, List.pairwise_map] at h
  exact h.imp fun hne e => hne (by unfold keyL; rw [e])
theorem exL_add {ws : List Nat} {S i : Nat} (hS : S ≠ 0) (h1 : nDigits (ws.getD i 0) ≤ 4000) (h2 : nDigits S ≤ 4000) : addL (sortM (exL ws S i)) (numB i) (shB (ws.getD i 0) S) = sortM (exL ws S (i + 1)) := by
  by_cases h0 : ws.getD i 0 = 0
  · rw [h0, shB_zero, addL, if_pos rfl, exL, if_neg (by simpa using h0)]
  · rw [exL, if_pos h0]
    refine addL_sort (shB_ne hS h1 h2 h0) ?_ ?_
    · intro x hx e
      obtain ⟨j, h1, -, rfl⟩ := exL_mem.1 hx
      have := dec_inj (by have := congrArg (fun b : ByteArray => b.data.toList) e; simpa [numB_list] using this)
      omega
    · exact nodup_pw (reads_exD (H := Unit) ws S i).nd
theorem cnt_fit {ws : List Nat} {t i : Nat} (hS : 0 < ws.sum) : cnt ws t i ≤ t := Nat.le_trans (Nat.sub_le _ _) (cntE_fit t i hS)
theorem two_dig {x : Nat} (h : x ≤ 2 ^ 256) : nDigits x ≤ 4000 := Nat.le_trans (nDigits_le (k := 78) (by omega) (Nat.lt_of_le_of_lt h (by decide))) (by omega)
theorem lawL_add {ws : List Nat} {t i : Nat} (ht : t ≠ 0) (hT : t ≤ 2 ^ 256) (hS : 0 < ws.sum) : addL (sortM (lawL ws t i)) (numB i) (shB (cnt ws t i) t) = sortM (lawL ws t (i + 1)) := by
  by_cases h0 : cntF ws t i < cntE ws t i
  · rw [lawL, if_pos h0]
    refine addL_sort (shB_ne ht (two_dig (Nat.le_trans (cnt_fit hS) hT)) (two_dig hT) (by unfold cnt; omega)) ?_ ?_
    · intro x hx e
      obtain ⟨j, h1, -, rfl⟩ := lawL_mem.1 hx
      have := dec_inj (by have := congrArg (fun b : ByteArray => b.data.toList) e; simpa [numB_list] using this)
      omega
    · exact nodup_pw (reads_lawD (H := Unit) ws t i).nd
  · have e : cnt ws t i = 0 := by unfold cnt; omega
    rw [e, shB_zero, addL, if_pos rfl, lawL, if_neg h0]
theorem lawP_add {ws : List Nat} {t N : Nat} (ht : t ≠ 0) (hT : t ≤ 2 ^ 256) : addL (sortM (lawL ws t N)) lateB (shB (t - lwS ws t N) t) = sortM (lawP ws t N) := by
  by_cases h0 : t - lwS ws t N = 0
  · rw [h0, shB_zero, addL, if_pos rfl, lawP, if_pos h0]
  · rw [lawP, if_neg h0]
    refine addL_sort (shB_ne ht (two_dig (Nat.le_trans (Nat.sub_le _ _) hT)) (two_dig hT) h0) ?_ ?_
    · intro x hx e
      obtain ⟨j, h1, -, rfl⟩ := lawL_mem.1 hx
      exact numB_late j (by rw [← e])
    · exact nodup_pw (reads_lawD (H := Unit) ws t N).nd
end Go.Proofs.YtpheklgnmbpobaaGreatDoor
namespace Go.Proofs.YtpheklgnmbpobaaGreatDoor
open Go.RowKit
theorem MRow.openM {w : World} {v : Value} {L : List (ByteArray × ByteArray)} (h : MRow w v L) : ∃ a c, v = .slice a L.length c := by
  obtain ⟨a, c, e, -⟩ := h.ex
  exact ⟨a, c, e⟩
end Go.Proofs.YtpheklgnmbpobaaGreatDoor
namespace Go.Proofs.YtpheklgnmbpobaaGreatDoor
open Go.RowKit Go.Shelf
open Go.Lib (decDigits nDigits)
set_option linter.unusedVariables false
set_option linter.unusedSimpArgs false
theorem sortM_nil : sortM [] = [] := by rw [sortM, List.mergeSort_nil]
set_option maxRecDepth 100000 in
set_option maxHeartbeats 4000000 in
theorem r5_Law (w : World) (v : Value) (l : List ByteArray) (n : Int) (hv : Row w v (strs l)) (hl : ∀ x ∈ l, x.size ≤ 1000000) :
    Calls Tryz.prog 68 #[v, .int .i64 n] w fun e w' => (∃ u, e = .returned (.tuple #[u, .int .i64 (lawE l n)]) ∧ MRow w' u (lawR l n)) ∧ Below w.heap.size w w' := by
  have PC := hid ((r5_Check w v l hv hl).mono fun e w' (h : e = .returned (.int .i64 (wsE l)) ∧ w = w') => (⟨h.1, h.2 ▸ Below.refl _ _⟩ : e = .returned (.int .i64 (wsE l)) ∧ Below w.heap.size w w'))
  have HV := hid hv
  obtain ⟨a, c, rfl, q1, q2, -⟩ := hv.openS
  by_cases he : wsE l = 0
  · by_cases hr : n < 0 ∨ 256 < n
    · have e1 : lawE l n = 2 := by rw [lawE, if_neg (by simpa using he), if_pos hr]
      have e2 : lawR l n = [] := by unfold lawR; rw [if_neg (by rw [e1]; decide)]
      rw [e1, e2]
      rw [he] at PC
      obtain ⟨N, hN⟩ : ∃ N, l.length = N := ⟨_, rfl⟩
      rw [hN] at PC q1 ⊢
      clear hv hl hN HV e1 e2 he
      by_cases h4 : n < 0
      · have q0 : decide (n < 0) = true := by simpa using h4
        clear hr h4
        go_enter Tryz.func68, Tryz.ntmps68
        go_wp2_with fail
        refine PC.out.mono ?_; rintro e w1 ⟨rfl, hb1⟩
        go_wp2_with fail
        go_ret2
        exact ⟨⟨_, rfl, MRow.nil _⟩, hb1⟩
      · have q0 : decide (n < 0) = false := by simpa using h4
        have q1' : decide (256 < n) = true := by simp; omega
        clear hr h4
        go_enter Tryz.func68, Tryz.ntmps68
        go_wp2_with fail
        refine PC.out.mono ?_; rintro e w1 ⟨rfl, hb1⟩
        go_wp2_with fail
        go_ret2
        exact ⟨⟨_, rfl, MRow.nil _⟩, hb1⟩
    · obtain ⟨m, rfl⟩ : ∃ m : Nat, n = m := ⟨n.toNat, by omega⟩
      have hm : m ≤ 256 := by omega
      have e1 : lawE l (m : Int) = 0 := by rw [lawE, if_neg (by simpa using he), if_neg hr]
      have e2 : lawR l (m : Int) = sortM (lawP (l.map bN) (2 ^ m) l.length) := by unfold lawR; rw [if_pos e1]; simp
      obtain ⟨D1, D2, D3⟩ := wsE_ok he
      have hS := wsE_pos he
      have hlen : (l.map bN).length = l.length := by simp
      have RC := hid fun V (hV : Row V (.slice a l.length c) (strs l)) => r5_counts V (.slice a l.length c) (l.map bN) m D2 hS (by rw [← D1]; exact hV) hm
      have RL := hid fun V u (hu : NRow V u (l.map bN).length (cnt (l.map bN) (2 ^ m))) => r5_late V u (l.map bN) m hS hm D2.len hu
      have RS := hid fun V u x (hx : x ≤ 2 ^ 256) (hu : IsN .i64 V u x) => r3_Share V u x m hu hm hx
      have tle : 2 ^ m ≤ 2 ^ 256 := Nat.pow_le_pow_right (by omega) hm
      have HC := hid fun i => Nat.le_trans (cnt_fit (ws := l.map bN) (t := 2 ^ m) (i := i) hS) tle
      have HLT := hid (late_ok he m hm)
      have HA := hid fun i => lawL_add (ws := l.map bN) (t := 2 ^ m) (i := i) (two_ne m) tle hS
      have HP := hid (lawP_add (ws := l.map bN) (t := 2 ^ m) (N := l.length) (two_ne m) tle)
      rw [hlen] at RL RC
      rw [e1, e2]
      rw [he] at PC
      have q0 : decide ((m : Int) < 0) = false := by simp
      have q1' : decide ((256 : Int) < (m : Int)) = false := by simp; omega
      have D4 := D2.len
      rw [hlen] at D4
      obtain ⟨N, hN⟩ : ∃ N, l.length = N := ⟨_, rfl⟩
      rw [hN] at PC q1 RL RC HV HLT HP D4 ⊢
      obtain ⟨ws, hws⟩ : ∃ ws, l.map bN = ws := ⟨_, rfl⟩
      rw [hws] at RL RC HC HLT HA HP ⊢
      obtain ⟨t, ht⟩ : ∃ t, 2 ^ m = t := ⟨_, rfl⟩
      rw [ht] at RL RC HC HLT HA HP RS ⊢
      obtain ⟨Y, hY⟩ : ∃ Y, t - lwS ws t N = Y := ⟨_, rfl⟩
      rw [hY] at RL HLT HP
      obtain ⟨f, hf⟩ : ∃ f, cnt ws t = f := ⟨_, rfl⟩
      rw [hf] at RL RC
      have HF := hid hf
      have HAL : Hid (∀ i, (sortM (lawL ws t i)).length ≤ i) := fun i => by rw [sortM_length]; exact lawL_length ws t i
      clear hv hl hN e1 e2 he hr D1 D2 D3 hS hlen hY hf ht hws tle
      go_enter Tryz.func68, Tryz.ntmps68
      go_wp2_with fail
      refine PC.out.mono ?_; rintro e w1 ⟨rfl, hb1⟩
      have B1 := hid hb1; clear hb1
      go_wp2_with fail
      refine (RC.out _ (HV.out.call B1.out)).mono ?_; rintro e w2 ⟨⟨u2, rfl, hu2⟩, hb2⟩
      have U2 := hid hu2; have B2 := hid (bnext B1.out hb2)
      obtain ⟨a2, c2, rfl, r1, r2, r3⟩ := hu2.open
      have R3 := hid r3
      clear hu2 hb2 r3
      go_wp2_with fail
      go_loopw [8, 9] (fun dd ii wr => ∃ i : Nat, ii = .int .i64 i ∧ i ≤ N ∧ Hid (MRow wr dd (sortM (lawL ws t i))) ∧ Hid (Below w2.heap.size w2 wr)) (fun dd ii wr => N - (intOf ii).toNat)
      case atStart => exact ⟨0, rfl, Nat.zero_le _, by show MRow _ _ _; rw [lawL, sortM_nil]; exact MRow.nil _, Below.refl _ _⟩
      case round =>
        obtain ⟨i, rfl, hi, hM, hB⟩ := hrel
        obtain ⟨aM, cM, rfl⟩ := hM.out.openM
        by_cases hlt : i < N
        · obtain ⟨g, o, y, rfl, hg, hc, hy⟩ := R3.out i hlt
          obtain ⟨ay, cy, rfl, -, -, -⟩ := hy.openI
          have HY := hid hy
          have KK : Hid (∀ w', Below w2.heap.size w2 w' → w'.cell? ⟨g, o + i, none⟩ = some (.slice ay (limbs (f i)).length cy)) := fun w' hb => (hb.cell (p := ⟨g, o + i, none⟩) hg).trans hc
          have c1 : (0 : Int) ≤ (i : Int) := by omega
          have c2 : (i : Int) < (N : Int) := by omega
          have wi : IntKind.i64.wrap ((i : Int) + 1) = ((i + 1 : Nat) : Int) := by rw [IntWalk.i64_in _ ⟨by omega, by omega⟩]; omega
          have RI := fun V => hid (r2_Int V i (by omega))
          have HCI := hid (show f i ≤ 2 ^ 256 from by rw [← HF.out]; exact HC.out i)
          have HAI := hid (show addL (sortM (lawL ws t i)) (numB i) (shB (f i) t) = sortM (lawL ws t (i + 1)) from by rw [← HF.out]; exact HA.out i)
          have RA := fun V u key p hu => hid (r4_Add V u (sortM (lawL ws t i)) key p hu (by have := HAL.out i; omega))
          obtain ⟨L, hL⟩ : ∃ L, (sortM (lawL ws t i)).length = L := ⟨_, rfl⟩
          rw [hL] at hM ⊢
          obtain ⟨I0, hI0⟩ : ∃ s, numB i = s := ⟨_, rfl⟩
          obtain ⟨J0, hJ0⟩ : ∃ s, shB (f i) t = s := ⟨_, rfl⟩
          rw [hI0] at RI
          rw [hI0, hJ0] at HAI
          have HJ0 := hid hJ0
          obtain ⟨ly, hly⟩ : ∃ x, (limbs (f i)).length = x := ⟨_, rfl⟩
          rw [hly] at HY KK
          clear hc hy hL hI0 hJ0 hly
          go_wp2_with fail
          go_region_held3 (fun w' => w'.cell? ⟨g, o + i, none⟩ = some (.slice ay ly cy))
            (first
              | exact KK.out _ hB.out.drew
              | exact KK.out _ (hB.out.trans (B4.out.mono hB.out.size))
              | exact KK.out _ (hB.out.trans (B3.out.mono hB.out.size)))
            (first
              | (go_at_call 16; refine (RI _).out.mono ?_; rintro e w3 ⟨rfl, rfl⟩)
              | (go_at_call 59; refine (RS.out _ _ _ HCI.out (HY.out.call (hB.out.drew))).mono ?_; rintro e w3 ⟨rfl, hb3⟩; have B3 := hid (show Below wr.heap.size wr w3 from (Below.refl _ _).drew.trans hb3); clear hb3)
              | (go_at_call 116; refine (RA _ _ _ _ (hM.out.call B3.out)).out.mono ?_; rintro e w4 ⟨⟨u4, rfl, hu4⟩, hb4⟩; have U4 := hid hu4; have B4 := hid (bnext B3.out hb4); clear hu4 hb4))
          rw [HJ0.out, HAI.out] at U4
          go_wp2_with fail
          go_roundw
          case rel => exact ⟨i + 1, by go_num, by omega, U4, bnext hB.out B4.out⟩
          case measure => simp [intOf] <;> omega
        · obtain rfl : i = N := by omega
          have RA := fun V u key p hu => hid (r4_Add V u (sortM (lawL ws t i)) key p hu (by have := HAL.out i; omega))
          obtain ⟨L, hL⟩ : ∃ L, (sortM (lawL ws t i)).length = L := ⟨_, rfl⟩
          rw [hL] at hM ⊢
          obtain ⟨J0, hJ0⟩ : ∃ s, shB Y t = s := ⟨_, rfl⟩
          rw [hJ0] at HP
          have HJ0 := hid hJ0
          clear hL hJ0
          go_wp2_with fail
          refine (RL.out _ _ (U2.out.call hB.out)).mono ?_; rintro e w3 ⟨⟨u3, rfl, hu3⟩, hb3⟩
          have U3 := hid hu3; have B3 := hid (bnext hB.out hb3); have BR3 := hid hb3; clear hu3 hb3
          go_wp2_with fail
          refine (RS.out _ _ _ HLT.out U3.out).mono ?_; rintro e w4 ⟨rfl, hb4⟩
          have B4 := hid (bnext B3.out hb4); have BR4 := hid (bnext BR3.out hb4); clear hb4
          go_wp2_with fail
          refine (RA _ _ _ _ (hM.out.call BR4.out)).out.mono ?_; rintro e w5 ⟨⟨u5, rfl, hu5⟩, hb5⟩
          have U5 := hid hu5; have B5 := hid (bnext B4.out hb5); clear hu5 hb5
          rw [HJ0.out] at U5
          have hpp := HP.out
          unfold lateB at hpp
          rw [hpp] at U5
          clear hpp
          go_wp2_with fail
          go_ret2
          exact ⟨⟨_, rfl, U5.out⟩, bnext B2.out B5.out⟩
  · have e1 : lawE l n = wsE l := by rw [lawE, if_pos he]
    have e2 : lawR l n = [] := by unfold lawR; rw [if_neg (by rw [e1]; exact he)]
    rw [e1, e2]
    obtain ⟨N, hN⟩ : ∃ N, l.length = N := ⟨_, rfl⟩
    obtain ⟨z, hz⟩ : ∃ z, wsE l = z := ⟨_, rfl⟩
    rw [hN, hz] at PC
    rw [hN, hz]
    rw [hN] at q1
    rw [hz] at he
    have q0 : (z != 0) = true := by simpa using he
    clear hv hl hN HV e1 e2 he hz
    go_enter Tryz.func68, Tryz.ntmps68
    go_wp2_with fail
    refine PC.out.mono ?_; rintro e w1 ⟨rfl, hb1⟩
    go_wp2_with fail
    go_ret2
    exact ⟨⟨_, rfl, MRow.nil _⟩, hb1⟩
end Go.Proofs.YtpheklgnmbpobaaGreatDoor
