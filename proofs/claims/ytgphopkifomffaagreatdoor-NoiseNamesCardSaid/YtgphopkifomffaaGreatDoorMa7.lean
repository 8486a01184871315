/- Texts that the proof rests on, merged: Tt, NpG, Lt, Gt0, Zs, Cf, Fw, Na1, RtW, Rt2, Rt3, Fr2, Fr1b, Fr4, Rt4, Rt5, PcB, Pn6, Rp13, Fd4, Sq3, Fn0, Rq0, Sh6. -/
import Derived.Test.YtgphopkifomffaaGreatDoorMa6
import Derived.Deep.LoopGhost
import Derived.WalkLawsBesides
import Derived.Deep.AppendLies
import Derived.Sort.Walk0
import Derived.Deep.DeepCutAuto
import Derived.Shelf.SlSortCmp.WholeK
import Derived.Shelf.SlGeneric
import Derived.Shelf.Small.Bits
import Derived.Ground.SlsfProg
import Derived.Ground.NamesProg
import Derived.Test.YtgphopkifomffaaGreatDoorProg
namespace Go.Proofs.YtgphopkifomffaaGreatDoor
open Go.RowKit
open Go.Lib (decDigits nDigits)
set_option linter.unusedVariables false
set_option linter.unusedSimpArgs false
def NRowT (w : World) (g : Nat) (l : List Nat) : Prop := Blk w g (numL l).toArray 22
theorem NRowT.cell {w : World} {g : Nat} {l : List Nat} (h : NRowT w g l) {i : Nat} (hi : i < l.length) : w.cell? ⟨g, i, none⟩ = some (.string (numB (l.getD i 0))) := by
  refine (Blk.cell h i).trans ?_
  rw [List.getElem?_toArray, numL_get hi]
theorem NRowT.free {w : World} {g : Nat} {l : List Nat} (h : NRowT w g l) (i : Nat) : w.frozen? ⟨g, i, none⟩ = false := Blk.free h i
theorem NRowT.set {w : World} {g : Nat} {l : List Nat} (h : NRowT w g l) (i x : Nat) : NRowT (w.setCell ⟨g, i, none⟩ (.string (numB x))) g (l.set i x) := by
  have := Blk.set h i (.string (numB x))
  rw [List.setIfInBounds_toArray, numL_set] at this
  exact this
theorem NRowT.call {w w' : World} {g : Nat} {l : List Nat} (h : NRowT w g l) (hb : Below w.heap.size w w') : NRowT w' g l := Blk.call h hb
theorem NRowT.other {w : World} {g : Nat} {l : List Nat} (h : NRowT w g l) {a : Addr} (ha : a.block ≠ g) (v : Value) : NRowT (w.setCell a v) g l := Blk.other h ha v
theorem NRowT.zeros {w : World} {g n : Nat} (h : Blk w g (strsR (List.replicate n ⟨#[48]⟩)).toArray 22) : NRowT w g (List.replicate n 0) := by
  have e : numL (List.replicate n 0) = strsR (List.replicate n ⟨#[48]⟩) := by
    unfold numL strsR
    rw [List.map_replicate, List.map_replicate, numB_zero]
  unfold NRowT
  rw [e]; exact h
def TotOut (w : World) (n N D : Nat) (e : Ending) (w' : World) : Prop := ∃ g, e = .returned (.slice (some ⟨g, 0, none⟩) (n + 1) (n + 1)) ∧ w.heap.size ≤ g ∧ NRowT w' g (tOut (oneJ N D) (zeroJ N D) n (n + 1)).2
set_option maxRecDepth 100000 in
set_option maxHeartbeats 8000000 in
theorem g_totals (w : World) (a : ByteArray) (n N D : Nat) (ha : a.size ≤ 100000) (he : gPE a = 0) (hn : n ≤ 1000) (hN : bN (cW a) = N) (hD : bN (qD a) = D) (hND : N < D) (hL : Lay w) :
    Calls Tryz.prog 137 #[.string a, .int .i64 n] w fun e w' => TotOut w n N D e w' ∧ Below w.heap.size w w' := by
  have HS := hid (g_sides w a n N D ha he hn hN hD hND hL)
  have HR := fun V g h => hid (s_Repeat V g (n + 1) ⟨#[48]⟩ (by omega) (by omega) h)
  have HL := hid hL; have HLL := hid hL.lt; have HN := hid hn
  have wn : IntKind.i64.wrap ((n : Int) + 1) = ((n + 1 : Nat) : Int) := by rw [IntWalk.i64_in _ ⟨by omega, by omega⟩]; omega
  have h00 := hid (show oneJ N D 0 = false from rfl)
  obtain ⟨os, hos⟩ : ∃ f, oneJ N D = f := ⟨_, rfl⟩
  obtain ⟨zs, hzs⟩ : ∃ f, zeroJ N D = f := ⟨_, rfl⟩
  have HOS := hid hos; have HZS := hid hzs
  rw [hos] at h00
  clear ha he hn hN hD hND hL hos hzs
  go_enter Tryz.func137, Tryz.ntmps137
  go_wp2_with fail
  refine HS.out.mono ?_; rintro e w1 ⟨⟨v1, v2, rfl, ⟨g1, g2, rfl, rfl, h3, h4, h5, hg1, hg2⟩⟩, hb1⟩
  rw [HOS.out] at hg1
  rw [HZS.out] at hg2
  have G1 := hid hg1; have G2 := hid hg2; have B1 := hid hb1; have K1 := hid h4; have K2 := hid h5
  clear hg1 hg2 hb1 h3 h4 h5 HS
  go_wp2_with fail
  refine (HR _ _ ((Blk.new w1 _ _).cell 0)).out.mono ?_; rintro e w2 ⟨rfl, hg7, hb2⟩
  obtain ⟨g7, h7⟩ : ∃ g, (w1.alloc (.cells #[.string ⟨#[48]⟩] 22)).heap.size = g := ⟨_, rfl⟩
  rw [h7] at hg7 ⊢
  have R7 := hid (NRowT.zeros hg7)
  have a1 := (Below.refl w1.heap.size w1).alloc (Nat.le_refl _) (.cells #[.string ⟨#[48]⟩] 22)
  have b2 := hid (bnext a1 hb2)
  have K7 := hid (show w1.heap.size < g7 by rw [← h7]; simp)
  have B2 := hid (B1.out.trans (b2.out.mono B1.out.size)); have G12 := hid (G1.out.call b2.out); have G22 := hid (G2.out.call b2.out)
  have L7 := hid (show g7 < w2.heap.size from Blk.lt hg7)
  clear hg7 hb2 a1 h7
  go_wp2_with fail
  refine (HR _ _ ((Blk.new w2 _ _).cell 0)).out.mono ?_; rintro e w3 ⟨rfl, hg8, hb3⟩
  obtain ⟨g8, h8⟩ : ∃ g, (w2.alloc (.cells #[.string ⟨#[48]⟩] 22)).heap.size = g := ⟨_, rfl⟩
  rw [h8] at hg8 ⊢
  have R8 := hid (NRowT.zeros hg8)
  have a2 := (Below.refl w2.heap.size w2).alloc (Nat.le_refl _) (.cells #[.string ⟨#[48]⟩] 22)
  have b3 := hid (bnext a2 hb3)
  have K8 := hid (show w2.heap.size < g8 by rw [← h8]; simp)
  have B3 := hid (B2.out.trans (b3.out.mono B2.out.size)); have G13 := hid (G12.out.call b3.out); have G23 := hid (G22.out.call b3.out); have R73 := hid (R7.out.call b3.out)
  have N1 := hid (show g1 < w1.heap.size from Blk.lt G1.out); have N2 := hid (show g2 < w1.heap.size from Blk.lt G2.out)
  have z12 := hid b2.out.size; have zw1 := hid B1.out.size
  clear hg8 hb3 a2 h8 HR
  have k0 : w3.cell? ⟨g7, 0, none⟩ = some (.string ⟨#[48]⟩) := by
    refine (R73.out.cell (i := 0) (by simp)).trans ?_
    rw [← numB_zero]; simp [List.getD_eq_getElem?_getD]
  have k1 := R73.out.free 0
  have z0 : (0 : Int) < ((n + 1 : Nat) : Int) := by omega
  have z1 : (0 : Int) < (n : Int) + 1 := by omega
  go_wp2_with fail
  have X7 : Hid (7 = 7) := rfl
  have hne : g7 ≠ g8 := by have := L7.out; have := K8.out; omega
  obtain ⟨W3, hW3⟩ : ∃ W, w3.setCell ⟨g7, 0, none⟩ (.string ⟨#[49]⟩) = W := ⟨_, rfl⟩
  have S7 : NRowT W3 g7 (tOut os zs n 0).1 := by
    rw [← hW3, ← numB_one]
    have h := R73.out.set 0 1
    rw [show (List.replicate (n + 1) 0).set 0 1 = 1 :: List.replicate n 0 by rw [List.replicate_succ]; rfl] at h
    exact h
  have S8 : NRowT W3 g8 (tOut os zs n 0).2 := by rw [← hW3]; exact R8.out.other hne _
  have S1 : Blk W3 g1 (allB os n).toArray 4 := by rw [← hW3]; exact G13.out.other (by have := K7.out; have := N1.out; simp; omega) _
  have S2 : Blk W3 g2 (allB zs n).toArray 4 := by rw [← hW3]; exact G23.out.other (by have := K7.out; have := N2.out; simp; omega) _
  have SB : Below w.heap.size w W3 := by rw [← hW3]; exact B3.out.setCell (by have := K7.out; have := zw1.out; simp; omega) _
  rw [hW3]
  have T7 := hid S7; have T8 := hid S8; have T1 := hid S1; have T2 := hid S2; have TBl := hid SB; have NE := hid hne
  have Q7 := hid (show w.heap.size ≤ g7 by have := K7.out; have := zw1.out; omega); have Q8 := hid (show w.heap.size ≤ g8 by have := K7.out; have := K8.out; have := L7.out; have := zw1.out; omega)
  have M17 := hid (show g1 ≠ g7 by have := K7.out; have := N1.out; omega); have M18 := hid (show g1 ≠ g8 by have := K7.out; have := K8.out; have := L7.out; have := N1.out; omega)
  have M27 := hid (show g2 ≠ g7 by have := K7.out; have := N2.out; omega); have M28 := hid (show g2 ≠ g8 by have := K7.out; have := K8.out; have := L7.out; have := N2.out; omega)
  clear k0 k1 z0 z1 S7 S8 S1 S2 SB hne hW3 X7 R73 R8 G13 G23 B3 b3 R7 G12 G22 B2 b2 G1 G2 B1 K7 K8 L7 z12 zw1 N1 N2
  go_loopw [29] (fun ii wr => ∃ i : Nat, ii = .int .i64 (i : Nat) ∧ i ≤ n + 1 ∧ Hid (NRowT wr g7 (tOut os zs n i).1) ∧ Hid (NRowT wr g8 (tOut os zs n i).2) ∧ Hid (Blk wr g1 (allB os n).toArray 4) ∧ Hid (Blk wr g2 (allB zs n).toArray 4) ∧ Hid (Below w.heap.size w wr)) (fun ii wr => n + 1 - (intOf ii).toNat)
  case atStart => exact ⟨0, rfl, Nat.zero_le _, T7.out, T8.out, T1.out, T2.out, TBl.out⟩
  case round =>
    obtain ⟨i, rfl, hi, hg7, hg8, hg1, hg2, hB⟩ := hrel
    by_cases hlt : i < n + 1
    · have q0 : decide ((i : Int) < ((n + 1 : Nat) : Int)) = true := by simp; omega
      have f0 : (0 : Int) ≤ (i : Int) := by omega
      have f1 : (i : Int) < ((n + 1 : Nat) : Int) := by omega
      have f2 : (i : Int) ≤ 1000 := by have := HN.out; omega
      have IL := hid hlt
      have TBI := hid (TB.outer (os := os) (zs := zs) h00.out n i hi)
      clear hi hlt
      go_wp2_with fail
      obtain ⟨x, hx⟩ : ∃ x, (tOut os zs n i).1.getD i 0 = x := ⟨_, rfl⟩
      obtain ⟨wo, rfl⟩ : ∃ wo : World, wo = wr := ⟨_, rfl⟩
      by_cases hx0 : x = 0
      · have k0 : wo.cell? ⟨g7, i, none⟩ = some (.string (numB x)) := by rw [← hx]; exact hg7.out.cell (by rw [TBI.out.l1]; exact IL.out)
        have q1 : ((numB x).toList == [48]) = true := by rw [hx0, numB_zero]; exact lit_zero
        have hnext := hid (show tOut os zs n (i + 1) = tOut os zs n i from by rw [tOut, if_pos (by rw [hx]; exact hx0)])
        obtain ⟨sx, hsx⟩ : ∃ s, numB x = s := ⟨_, rfl⟩
        rw [hsx] at k0 q1
        clear hx hx0 hsx
        go_loopw [10] (fun jj wq => jj = .int .i64 0 ∧ wq = wo) (fun jj wq => 0)
        case atStart => exact ⟨rfl, rfl⟩
        case round =>
          obtain ⟨rfl, rfl⟩ := hrel
          go_wp2_with fail
          go_roundw
          case rel => exact ⟨i + 1, by go_num, by have := IL.out; omega, by rw [hnext.out]; exact hg7, by rw [hnext.out]; exact hg8, hg1, hg2, hB⟩
          case measure => simp [intOf] <;> (have := IL.out; omega)
      · have q1 : ((numB x).toList == [48]) = false := ne_lit (l := [48]) (by rw [← numB_zero]; exact numB_ne hx0)
        have hnext := hid (show tOut os zs n (i + 1) = tIn os zs i (n + 1 - i) (tOut os zs n i) from by rw [tOut, if_neg (by rw [hx]; exact hx0)])
        obtain ⟨s0, hs0⟩ : ∃ s, tOut os zs n i = s := ⟨_, rfl⟩
        rw [hs0] at hx hg7 hg8 hnext TBI
        have HX := hid hx
        obtain ⟨sx, hsx⟩ : ∃ s, numB x = s := ⟨_, rfl⟩
        rw [hsx] at q1
        have HSX := hid hsx
        clear hx hx0 hsx hs0
        have d30 : decide ((i : Int) < (n : Int) + 1) = true := by have := IL.out; simp; omega
        rw [d30]
        clear d30
        go_loopw [10] (fun jj wq => ∃ j : Nat, jj = .int .i64 (j : Nat) ∧ i + j ≤ n + 1 ∧ Hid (NRowT wq g7 (tIn os zs i j s0).1) ∧ Hid (NRowT wq g8 (tIn os zs i j s0).2) ∧ Hid (Blk wq g1 (allB os n).toArray 4) ∧ Hid (Blk wq g2 (allB zs n).toArray 4) ∧ Hid (Below w.heap.size w wq)) (fun jj wq => n + 1 - (intOf jj).toNat)
        case atStart => exact ⟨0, rfl, by have := IL.out; omega, hg7, hg8, hg1, hg2, hB⟩
        case round =>
          clear hg7 hg8 hg1 hg2 hB
          obtain ⟨j, rfl, hj, hg7, hg8, hg1, hg2, hB⟩ := hrel
          have TBJ := hid (TB.inner (os := os) (zs := zs) h00.out TBI.out j hj)
          have k0 : wr.cell? ⟨g7, i, none⟩ = some (.string sx) := by
            refine (hg7.out.cell (by rw [TBJ.out.1.l1]; exact IL.out)).trans ?_
            rw [TBJ.out.2, HX.out, HSX.out]
          by_cases hlt : i + j ≤ n
          · have q2 : decide ((i : Int) + (j : Int) ≤ (n : Int)) = true := by simp; omega
            have f5 : (0 : Int) ≤ (j : Int) := by omega
            have f6 : (j : Int) < ((n + 1 : Nat) : Int) := by omega
            have f7 : (j : Int) ≤ 1000 := by have := HN.out; omega
            have f8 : (i : Int) + (j : Int) < ((n + 1 : Nat) : Int) := by omega
            have f9 : (i : Int) + (j : Int) < (n : Int) + 1 := by omega
            have f10 : (0 : Int) ≤ (i : Int) + (j : Int) := by omega
            have c1 : wr.cell? ⟨g1, j, none⟩ = some (.bool (os j)) := (hg1.out.cell j).trans (by rw [List.getElem?_toArray, allB_get (by omega)])
            have c2 : wr.cell? ⟨g2, j, none⟩ = some (.bool (zs j)) := (hg2.out.cell j).trans (by rw [List.getElem?_toArray, allB_get (by omega)])
            have HLT := hid hlt
            obtain ⟨zj, hzj⟩ : ∃ b, zs j = b := ⟨_, rfl⟩
            obtain ⟨oj, hoj⟩ : ∃ b, os j = b := ⟨_, rfl⟩
            rw [hoj] at c1
            rw [hzj] at c2
            have HZJ := hid hzj; have HOJ := hid hoj
            clear hlt hj hzj hoj
            obtain ⟨y1, hy1⟩ : ∃ y, (tIn os zs i j s0).2.getD (i + j) 0 = y := ⟨_, rfl⟩
            obtain ⟨y2, hy2⟩ : ∃ y, (tIn os zs i j s0).1.getD (i + j) 0 = y := ⟨_, rfl⟩
            have p2 : 2 ^ (i + 1) = 2 ^ i + 2 ^ i := by rw [Nat.pow_succ]; omega
            have hxb : x ≤ 2 ^ i := by rw [← HX.out]; exact TBI.out.src
            have hy1b : y1 ≤ 2 ^ i := hy1 ▸ TBJ.out.1.hi2 _ (Nat.le_refl _)
            have hy2b : y2 ≤ 2 ^ i := hy2 ▸ TBJ.out.1.hi1 _ (Nat.le_refl _)
            have i1000 : i ≤ 1000 := by have := IL.out; have := HN.out; omega
            have dx := two_pow_digits hxb (by omega)
            have P1 := fun V hV => hid (p_plus V y1 x (two_pow_digits hy1b (by omega)) dx (two_pow_digits (i := i + 1) (by omega) (by omega)) hV)
            have P2 := fun V hV => hid (p_plus V y2 x (two_pow_digits hy2b (by omega)) dx (two_pow_digits (i := i + 1) (by omega) (by omega)) hV)
            have t1 : wr.cell? ⟨g8, i + j, none⟩ = some (.string (numB y1)) := by rw [← hy1]; exact hg8.out.cell (by rw [TBJ.out.1.l2]; have := HLT.out; omega)
            have t2 : wr.cell? ⟨g7, i + j, none⟩ = some (.string (numB y2)) := by rw [← hy2]; exact hg7.out.cell (by rw [TBJ.out.1.l1]; have := HLT.out; omega)
            rw [HSX.out] at P1 P2
            obtain ⟨u1, hu1⟩ : ∃ s, numB y1 = s := ⟨_, rfl⟩
            obtain ⟨u2, hu2⟩ : ∃ s, numB y2 = s := ⟨_, rfl⟩
            rw [hu1] at P1 t1
            rw [hu2] at P2 t2
            have HY1 := hid hy1; have HY2 := hid hy2; have HU2 := hid hu2
            have hstep := hid (show tIn os zs i (j + 1) s0 = (addAt oj (i + j) x (tIn os zs i j s0).1, addAt zj (i + j) x (tIn os zs i j s0).2) from by rw [tIn, tStep, HOJ.out, HZJ.out, TBJ.out.2, HX.out])
            obtain ⟨m1, hm1⟩ : ∃ s, numB (y1 + x) = s := ⟨_, rfl⟩
            obtain ⟨m2, hm2⟩ : ∃ s, numB (y2 + x) = s := ⟨_, rfl⟩
            rw [hm1] at P1
            rw [hm2] at P2
            have HM1 := hid hm1; have HM2 := hid hm2
            clear hm1 hm2
            clear hy1 hy2 p2 hxb hy1b hy2b i1000 dx hu1 hu2
            cases zj
            · cases oj
              · go_wp2_with fail
                go_roundw
                case rel => exact ⟨j + 1, by go_num, by have := HLT.out; omega, by rw [hstep.out]; exact hg7, by rw [hstep.out]; exact hg8, hg1, hg2, hB⟩
                case measure => simp [intOf] <;> (have := HLT.out; omega)
              · go_wp2_with fail
                have ew : IntKind.i64.wrap ((i : Int) + (j : Int)) = (i : Int) + (j : Int) := by rw [IntWalk.i64_in _ ⟨by omega, by omega⟩]
                have et : ((i : Int) + (j : Int)).toNat = i + j := by omega
                refine held_lasts 15 2 [0, 1, 2, 3, 4, 5, 6, 7, 8, 9, 10, 11, 12, 13] 1 (fun W' => W'.cell? ⟨g7, i + j, none⟩ = some (.string u2) ∧ W'.cell? ⟨g7, i, none⟩ = some (.string sx)) (by kernel_rfl) rfl (by kernel_rfl) (by kernel_rfl) (by kernel_rfl) (by kernel_rfl) ⟨t2, k0⟩ ?_
                iterate 14
                  refine ⟨_, rfl, ?_⟩
                  apply Exists.intro
                  refine ⟨.inl ⟨by rfl, ?_⟩, ?_⟩
                  · (intro W' hW'; obtain ⟨r1, r2⟩ := hW'; go_simp; try (with_reducible rfl))
                  (dsimp only [Act.put]; try simp only [List.setIfInBounds_toArray, List.set_cons_zero, List.set_cons_succ])
                refine held_one (i := 14) (by kernel_rfl) (by rfl) (by rfl) ?_
                go_wp2_with fail
                refine (P2 _ (HL.out.below hB.out.drew HLL.out)).out.mono ?_; rintro e w5 ⟨rfl, hbc⟩
                have Ca := hid (show Below wr.heap.size wr w5 from (Below.refl _ _).drew.trans hbc)
                have E7a := hid (hg7.out.call Ca.out); have E8a := hid (hg8.out.call Ca.out); have E1a := hid (hg1.out.call Ca.out); have E2a := hid (hg2.out.call Ca.out); have EBa := hid (hB.out.trans (Ca.out.mono hB.out.size))
                have tca := (Ca.out.cell (cell_lt t2)).trans t2
                have kca := (Ca.out.cell (cell_lt k0)).trans k0
                clear hbc
                go_wp2_with fail
                refine ⟨⟨tca, kca⟩, ?_⟩
                refine wpAnyH_done (by kernel_rfl) ?_ _
                simp only [Only, ThenL, List.drop_succ_cons, List.drop_zero]
                have fza := E7a.out.free (i + j)
                clear kca
                go_wp2_with fail
                try simp only [Only]
                go_roundw
                case rel =>
                  refine ⟨j + 1, by go_num, by have := HLT.out; omega, ?_, ?_, E1a.out.other (fun e => M17.out e.symm) _, E2a.out.other (fun e => M27.out e.symm) _, EBa.out.setCell Q7.out _⟩
                  · show NRowT _ _ _
                    rw [hstep.out, addAt_true, HY2.out, ← HM2.out]
                    exact E7a.out.set (i + j) (y2 + x)
                  · show NRowT _ _ _
                    rw [hstep.out, addAt_false]
                    exact E8a.out.other (fun e => NE.out e) _
                case measure => simp [intOf] <;> (have := HLT.out; omega)
            · cases oj
              · go_wp2_with fail
                have ew : IntKind.i64.wrap ((i : Int) + (j : Int)) = (i : Int) + (j : Int) := by rw [IntWalk.i64_in _ ⟨by omega, by omega⟩]
                have et : ((i : Int) + (j : Int)).toNat = i + j := by omega
                refine held_lasts 15 2 [0, 1, 2, 3, 4, 5, 6, 7, 8, 9, 10, 11, 12, 13] 1 (fun W' => W'.cell? ⟨g8, i + j, none⟩ = some (.string u1) ∧ W'.cell? ⟨g7, i, none⟩ = some (.string sx)) (by kernel_rfl) rfl (by kernel_rfl) (by kernel_rfl) (by kernel_rfl) (by kernel_rfl) ⟨t1, k0⟩ ?_
                iterate 14
                  refine ⟨_, rfl, ?_⟩
                  apply Exists.intro
                  refine ⟨.inl ⟨by rfl, ?_⟩, ?_⟩
                  · (intro W' hW'; obtain ⟨r1, r2⟩ := hW'; go_simp; try (with_reducible rfl))
                  (dsimp only [Act.put]; try simp only [List.setIfInBounds_toArray, List.set_cons_zero, List.set_cons_succ])
                refine held_one (i := 14) (by kernel_rfl) (by rfl) (by rfl) ?_
                go_wp2_with fail
                refine (P1 _ (HL.out.below hB.out.drew HLL.out)).out.mono ?_; rintro e w5 ⟨rfl, hbc⟩
                have Ca := hid (show Below wr.heap.size wr w5 from (Below.refl _ _).drew.trans hbc)
                have E7a := hid (hg7.out.call Ca.out); have E8a := hid (hg8.out.call Ca.out); have E1a := hid (hg1.out.call Ca.out); have E2a := hid (hg2.out.call Ca.out); have EBa := hid (hB.out.trans (Ca.out.mono hB.out.size))
                have tca := (Ca.out.cell (cell_lt t1)).trans t1
                have kca := (Ca.out.cell (cell_lt k0)).trans k0
                clear hbc
                go_wp2_with fail
                refine ⟨⟨tca, kca⟩, ?_⟩
                refine wpAnyH_done (by kernel_rfl) ?_ _
                simp only [Only, ThenL, List.drop_succ_cons, List.drop_zero]
                have fza := E8a.out.free (i + j)
                have c1s : (w5.setCell ⟨g8, i + j, none⟩ (.string m1)).cell? ⟨g1, j, none⟩ = some (.bool false) := ((E1a.out.other (a := ⟨g8, i + j, none⟩) (fun e => M18.out e.symm) (.string m1)).cell j).trans (by rw [List.getElem?_toArray, allB_get (by have := HLT.out; omega), HOJ.out])
                clear kca
                go_wp2_with fail
                try simp only [Only]
                go_roundw
                case rel =>
                  refine ⟨j + 1, by go_num, by have := HLT.out; omega, ?_, ?_, E1a.out.other (fun e => M18.out e.symm) _, E2a.out.other (fun e => M28.out e.symm) _, EBa.out.setCell Q8.out _⟩
                  · show NRowT _ _ _
                    rw [hstep.out, addAt_false]
                    exact E7a.out.other (fun e => NE.out e.symm) _
                  · show NRowT _ _ _
                    rw [hstep.out, addAt_true, HY1.out, ← HM1.out]
                    exact E8a.out.set (i + j) (y1 + x)
                case measure => simp [intOf] <;> (have := HLT.out; omega)
              · go_wp2_with fail
                have ew : IntKind.i64.wrap ((i : Int) + (j : Int)) = (i : Int) + (j : Int) := by rw [IntWalk.i64_in _ ⟨by omega, by omega⟩]
                have et : ((i : Int) + (j : Int)).toNat = i + j := by omega
                refine held_lasts 15 2 [0, 1, 2, 3, 4, 5, 6, 7, 8, 9, 10, 11, 12, 13] 1 (fun W' => W'.cell? ⟨g8, i + j, none⟩ = some (.string u1) ∧ W'.cell? ⟨g7, i, none⟩ = some (.string sx)) (by kernel_rfl) rfl (by kernel_rfl) (by kernel_rfl) (by kernel_rfl) (by kernel_rfl) ⟨t1, k0⟩ ?_
                iterate 14
                  refine ⟨_, rfl, ?_⟩
                  apply Exists.intro
                  refine ⟨.inl ⟨by rfl, ?_⟩, ?_⟩
                  · (intro W' hW'; obtain ⟨r1, r2⟩ := hW'; go_simp; try (with_reducible rfl))
                  (dsimp only [Act.put]; try simp only [List.setIfInBounds_toArray, List.set_cons_zero, List.set_cons_succ])
                refine held_one (i := 14) (by kernel_rfl) (by rfl) (by rfl) ?_
                go_wp2_with fail
                refine (P1 _ (HL.out.below hB.out.drew HLL.out)).out.mono ?_; rintro e w5 ⟨rfl, hbc⟩
                have Ca := hid (show Below wr.heap.size wr w5 from (Below.refl _ _).drew.trans hbc)
                have E7a := hid (hg7.out.call Ca.out); have E8a := hid (hg8.out.call Ca.out); have E1a := hid (hg1.out.call Ca.out); have E2a := hid (hg2.out.call Ca.out); have EBa := hid (hB.out.trans (Ca.out.mono hB.out.size))
                have tca := (Ca.out.cell (cell_lt t1)).trans t1
                have kca := (Ca.out.cell (cell_lt k0)).trans k0
                clear hbc
                go_wp2_with fail
                refine ⟨⟨tca, kca⟩, ?_⟩
                refine wpAnyH_done (by kernel_rfl) ?_ _
                simp only [Only, ThenL, List.drop_succ_cons, List.drop_zero]
                have fza := E8a.out.free (i + j)
                have c1s : (w5.setCell ⟨g8, i + j, none⟩ (.string m1)).cell? ⟨g1, j, none⟩ = some (.bool true) := ((E1a.out.other (a := ⟨g8, i + j, none⟩) (fun e => M18.out e.symm) (.string m1)).cell j).trans (by rw [List.getElem?_toArray, allB_get (by have := HLT.out; omega), HOJ.out])
                clear kca
                go_wp2_with fail
                try simp only [Only]
                obtain ⟨w6, hw6⟩ : ∃ W, w5.setCell ⟨g8, i + j, none⟩ (.string m1) = W := ⟨_, rfl⟩
                have F7 : Hid (NRowT w6 g7 (tIn os zs i j s0).1) := by rw [← hw6]; exact E7a.out.other (fun e => NE.out e.symm) _
                have F8 : Hid (NRowT w6 g8 ((tIn os zs i j s0).2.set (i + j) (y1 + x))) := by rw [← hw6, ← HM1.out]; exact E8a.out.set (i + j) (y1 + x)
                have F1 : Hid (Blk w6 g1 (allB os n).toArray 4) := by rw [← hw6]; exact E1a.out.other (fun e => M18.out e.symm) _
                have F2 : Hid (Blk w6 g2 (allB zs n).toArray 4) := by rw [← hw6]; exact E2a.out.other (fun e => M28.out e.symm) _
                have FB : Hid (Below w.heap.size w w6) := by rw [← hw6]; exact EBa.out.setCell Q8.out _
                have k6 : w6.cell? ⟨g7, i, none⟩ = some (.string sx) := by
                  refine (F7.out.cell (by rw [TBJ.out.1.l1]; exact IL.out)).trans ?_
                  rw [TBJ.out.2, HX.out, HSX.out]
                have t6 : w6.cell? ⟨g7, i + j, none⟩ = some (.string u2) := by
                  refine (F7.out.cell (by rw [TBJ.out.1.l1]; have := HLT.out; omega)).trans ?_
                  rw [HY2.out, HU2.out]
                rw [hw6]
                clear hw6 c1s fza tca ew t1 t2 k0
                have ew : IntKind.i64.wrap ((i : Int) + (j : Int)) = (i : Int) + (j : Int) := by rw [IntWalk.i64_in _ ⟨by omega, by omega⟩]
                have et : ((i : Int) + (j : Int)).toNat = i + j := by omega
                refine held_lasts 15 2 [0, 1, 2, 3, 4, 5, 6, 7, 8, 9, 10, 11, 12, 13] 1 (fun W' => W'.cell? ⟨g7, i + j, none⟩ = some (.string u2) ∧ W'.cell? ⟨g7, i, none⟩ = some (.string sx)) (by kernel_rfl) rfl (by kernel_rfl) (by kernel_rfl) (by kernel_rfl) (by kernel_rfl) ⟨t6, k6⟩ ?_
                iterate 14
                  refine ⟨_, rfl, ?_⟩
                  apply Exists.intro
                  refine ⟨.inl ⟨by rfl, ?_⟩, ?_⟩
                  · (intro W' hW'; obtain ⟨r1, r2⟩ := hW'; go_simp; try (with_reducible rfl))
                  (dsimp only [Act.put]; try simp only [List.setIfInBounds_toArray, List.set_cons_zero, List.set_cons_succ])
                refine held_one (i := 14) (by kernel_rfl) (by rfl) (by rfl) ?_
                go_wp2_with fail
                refine (P2 _ (HL.out.below FB.out.drew HLL.out)).out.mono ?_; rintro e w7 ⟨rfl, hbc⟩
                have Cb := hid (show Below w6.heap.size w6 w7 from (Below.refl _ _).drew.trans hbc)
                have E7b := hid (F7.out.call Cb.out); have E8b := hid (F8.out.call Cb.out); have E1b := hid (F1.out.call Cb.out); have E2b := hid (F2.out.call Cb.out); have EBb := hid (FB.out.trans (Cb.out.mono FB.out.size))
                have tcb := (Cb.out.cell (cell_lt t6)).trans t6
                have kcb := (Cb.out.cell (cell_lt k6)).trans k6
                clear hbc
                go_wp2_with fail
                refine ⟨⟨tcb, kcb⟩, ?_⟩
                refine wpAnyH_done (by kernel_rfl) ?_ _
                simp only [Only, ThenL, List.drop_succ_cons, List.drop_zero]
                have fzb := E7b.out.free (i + j)
                clear kcb
                go_wp2_with fail
                try simp only [Only]
                go_roundw
                case rel =>
                  refine ⟨j + 1, by go_num, by have := HLT.out; omega, ?_, ?_, E1b.out.other (fun e => M17.out e.symm) _, E2b.out.other (fun e => M27.out e.symm) _, EBb.out.setCell Q7.out _⟩
                  · show NRowT _ _ _
                    rw [hstep.out, addAt_true, HY2.out, ← HM2.out]
                    exact E7b.out.set (i + j) (y2 + x)
                  · show NRowT _ _ _
                    rw [hstep.out, addAt_true, addAt_true, HY1.out]
                    exact E8b.out.other (fun e => NE.out e) _
                case measure => simp [intOf] <;> (have := HLT.out; omega)
          · have q2 : decide ((i : Int) + (j : Int) ≤ (n : Int)) = false := by simp; omega
            have e1 : j = n + 1 - i := by omega
            have f7 : (j : Int) ≤ 1001 := by have := HN.out; omega
            have f5 : (0 : Int) ≤ (j : Int) := by omega
            subst e1
            clear hj hlt
            go_wp2_with fail
            go_roundw
            case rel => exact ⟨i + 1, by go_num, by have := IL.out; omega, by rw [hnext.out]; exact hg7, by rw [hnext.out]; exact hg8, hg1, hg2, hB⟩
            case measure => simp [intOf] <;> (have := IL.out; omega)
    · have q0 : decide ((i : Int) < ((n + 1 : Nat) : Int)) = false := by simp; omega
      have e1 : i = n + 1 := by omega
      subst e1
      go_wp2_with fail
      go_ret
      exact ⟨⟨g8, rfl, Q8.out, by rw [HOS.out, HZS.out]; exact hg8.out⟩, hB.out⟩
end Go.Proofs.YtgphopkifomffaaGreatDoor
namespace Go.Proofs.YtgphopkifomffaaGreatDoor
open Go.RowKit Go.Shelf
open Go.Lib (decDigits nDigits)
set_option linter.unusedVariables false
set_option linter.unusedSimpArgs false
set_option maxRecDepth 100000 in
theorem g_power (w : World) (n : Nat) (hn : n ≤ 1000) (hL : Lay w) :
    Calls Tryz.prog 96 #[.int .i64 n] w fun e w' => e = .returned (.string (numB (2 ^ n))) ∧ Below w.heap.size w w' := by
  have HP := hid (n_Pow_ok w ⟨#[50]⟩ n errN_two (by omega) (by rw [bN_two]; exact two_digits hn) hL)
  rw [bN_two] at HP
  clear hn hL
  go_enter Tryz.func96, Tryz.ntmps96
  go_wp2_with fail
  refine HP.out.mono ?_; rintro e w1 ⟨rfl, hb1⟩
  have b1 := hid hb1; clear hb1
  go_wp2_with fail
  go_ret
  exact ⟨rfl, b1.out⟩
end Go.Proofs.YtgphopkifomffaaGreatDoor
namespace Go.Proofs.YtgphopkifomffaaGreatDoor
open Go.RowKit
open Go.Lib (decDigits nDigits)
set_option linter.unusedVariables false
set_option linter.unusedSimpArgs false
def OwnR (w : World) (H n : Nat) (v : Value) (l : List Nat) : Prop := ∃ g, v = .slice (some ⟨g, 0, none⟩) (n + 1) (n + 1) ∧ H ≤ g ∧ NRowT w g l
def lateL (two : Bool) (L : List Nat) (n : Nat) : List Nat := if two = true then cOut L n (n + 1) else L
set_option maxRecDepth 100000 in
set_option maxHeartbeats 8000000 in
theorem g_late (w : World) (a : ByteArray) (n N D : Nat) (two : Bool) (ha : a.size ≤ 100000) (he : gPE a = 0) (hn : n ≤ 256) (hN : bN (cW a) = N) (hD : bN (qD a) = D) (hND : N < D) (hL : Lay w)
    (hR : ∀ i, i ≤ n → (lateL two (tOut (oneJ N D) (zeroJ N D) n (n + 1)).2 n).getD i 0 * 2 ^ (n - i) ≤ rIn (lateL two (tOut (oneJ N D) (zeroJ N D) n (n + 1)).2 n) n i) :
    Calls Tryz.prog 92 #[.string a, .int .i64 n, .bool two] w fun e w' => e = .returned (.tuple #[.string (outB (qmk false (rIn (lateL two (tOut (oneJ N D) (zeroJ N D) n (n + 1)).2 n) n (n + 1)) (2 ^ n))), .int .i64 0]) ∧ Below w.heap.size w w' := by
  have HA := hid (g_ratio w a ha hL)
  rw [if_pos he, if_pos he, he] at HA
  have HT := fun V hV => hid (g_totals V a n N D ha he (by omega) hN hD hND hV)
  have HRep := fun V g h => hid (s_Repeat V g (n + 1) ⟨#[48]⟩ (by omega) (by omega) h)
  have hLb := tab_bound (os := oneJ N D) (zs := zeroJ N D) rfl hn
  obtain ⟨L, hL0⟩ : ∃ L, (tOut (oneJ N D) (zeroJ N D) n (n + 1)).2 = L := ⟨_, rfl⟩
  have HLQ := hid hL0
  rw [hL0] at hLb hR ⊢
  have HLb := hid hLb
  have hM : (lateL two L n).length = n + 1 ∧ ∀ k, (lateL two L n).getD k 0 ≤ 2 ^ e7 := by
    unfold lateL
    split
    · have h := CB.outer hLb.2 (n + 1) (Nat.le_refl (n + 1))
      exact ⟨h.len, fun k => conv_bound hn (Nat.le_refl _) (h.up k)⟩
    · exact ⟨hLb.1, fun k => Nat.le_trans (hLb.2 k) (Nat.pow_le_pow_right (by omega) (by unfold e3 e7; omega))⟩
  obtain ⟨M, hM0⟩ : ∃ M, lateL two L n = M := ⟨_, rfl⟩
  have HMQ := hid hM0
  rw [hM0] at hM hR ⊢
  have HMb := hid hM; have HR := hid hR
  have hmk := mk_num (a := rIn M n (n + 1)) (b := 2 ^ n) (two_pow_digits (rIn_le M n _) (by omega)) (two_pow_digits (Nat.le_refl _) (by omega)) (by have := Nat.pow_pos (n := n) (show 0 < 2 by omega); omega)
  have hov : ¬ ovQ (qmk false (rIn M n (n + 1)) (2 ^ n)) := by
    have hd : 0 < 2 ^ n := Nat.pow_pos (by omega)
    unfold ovQ
    rw [qmk_num hd, qmk_den hd, sgn_natAbs]
    have h1 := nDigits_mono (Nat.div_le_self (rIn M n (n + 1)) (Nat.gcd (rIn M n (n + 1)) (2 ^ n)))
    have h2 := nDigits_mono (Nat.div_le_self (2 ^ n) (Nat.gcd (rIn M n (n + 1)) (2 ^ n)))
    have h3 := two_pow_digits (rIn_le M n (n + 1)) (by omega)
    have h4 := two_pow_digits (Nat.le_refl (2 ^ n)) (by omega)
    omega
  have HQM := fun V hV => hid (q_Make V (numB (rIn M n (n + 1))) (numB (2 ^ n)) (numB_sz (two_pow_digits (rIn_le M n _) (by omega))) (numB_sz (two_pow_digits (Nat.le_refl _) (by omega))) hV)
  rw [hmk.1, hmk.2, outE_ok hov] at HQM
  obtain ⟨out, hout⟩ : ∃ o, outB (qmk false (rIn M n (n + 1)) (2 ^ n)) = o := ⟨_, rfl⟩
  rw [hout] at HQM ⊢
  have HLy := hid hL; have HLL := hid hL.lt; have HN := hid hn
  have wn : IntKind.i64.wrap ((n : Int) + 1) = ((n + 1 : Nat) : Int) := by rw [IntWalk.i64_in _ ⟨by omega, by omega⟩]; omega
  have q0 : decide ((n : Int) < 0) = false := by simp
  have q1 : decide ((256 : Int) < (n : Int)) = false := by simp; omega
  have n256 : (n : Int) ≤ 256 := by omega
  clear ha he hn hN hD hND hL hR hLb hL0 hM hM0 hmk hov hout
  go_enter Tryz.func92, Tryz.ntmps92
  go_wp2_with fail
  refine HA.out.mono ?_; rintro e w1 ⟨rfl, hb1⟩
  have B1 := hid hb1
  clear hb1 HA
  go_wp2_with fail
  refine (HT _ (HLy.out.call B1.out)).out.mono ?_; rintro e w2 ⟨⟨g11, rfl, h11, hr11⟩, hb2⟩
  rw [HLQ.out] at hr11
  have R11 := hid hr11; have B2 := hid (bnext B1.out hb2); have K11 := hid (show w.heap.size ≤ g11 from Nat.le_trans B1.out.size h11)
  clear h11 hr11 hb2 HT
  go_upto_if 38 with fail
  go_cut [11] (fun s11 wx => OwnR wx w.heap.size n s11 M ∧ Below w.heap.size w wx)
  case first =>
    cases two
    · go_wp2_with fail
      go_meet
      exact ⟨⟨g11, rfl, K11.out, by rw [← HMQ.out]; exact R11.out⟩, B2.out⟩
    · go_wp2_with fail
      refine (HRep _ _ ((Blk.new w2 _ _).cell 0)).out.mono ?_; rintro e w3 ⟨rfl, hg8, hb3⟩
      obtain ⟨g12, h8⟩ : ∃ g, (w2.alloc (.cells #[.string ⟨#[48]⟩] 22)).heap.size = g := ⟨_, rfl⟩
      rw [h8] at hg8 ⊢
      have R12 := hid (NRowT.zeros hg8)
      have a2 := (Below.refl w2.heap.size w2).alloc (Nat.le_refl _) (.cells #[.string ⟨#[48]⟩] 22)
      have b3 := hid (bnext a2 hb3)
      have B3 := hid (bnext B2.out b3.out); have R113 := hid (R11.out.call b3.out)
      have K12 := hid (show w.heap.size ≤ g12 by rw [← h8]; have := B2.out.size; simp; omega)
      have NE := hid (show g11 ≠ g12 by have := R11.out.lt; rw [← h8]; simp; omega)
      clear hg8 hb3 a2 h8 HRep b3
      have hc0 := hid (show NRowT w3 g12 (cOut L n 0) from R12.out)
      go_wp2_with fail
      go_loopw [45] (fun ii wr => ∃ i : Nat, ii = .int .i64 (i : Nat) ∧ i ≤ n + 1 ∧ Hid (NRowT wr g12 (cOut L n i)) ∧ Hid (NRowT wr g11 L) ∧ Hid (Below w.heap.size w wr)) (fun ii wr => n + 1 - (intOf ii).toNat)
      case atStart => exact ⟨0, rfl, Nat.zero_le _, hc0, R113, B3⟩
      case round =>
        obtain ⟨i, rfl, hi, hg12, hg11, hB⟩ := hrel
        by_cases hlt : i < n + 1
        · have q5 : decide ((i : Int) < ((n + 1 : Nat) : Int)) = true := by simp; omega
          have f0 : (0 : Int) ≤ (i : Int) := by omega
          have f1 : (i : Int) < ((n + 1 : Nat) : Int) := by omega
          have f2 : (i : Int) ≤ 256 := by have := HN.out; omega
          have IL := hid hlt
          have CBI := hid (CB.outer (n := n) HLb.out.2 i hi)
          clear hi hlt
          go_wp2_with fail
          have d30 : decide ((i : Int) < (n : Int) + 1) = true := by have := IL.out; simp; omega
          try rw [d30]
          clear d30
          obtain ⟨wo, rfl⟩ : ∃ wo : World, wo = wr := ⟨_, rfl⟩
          obtain ⟨m0, hm0⟩ : ∃ s, cOut L n i = s := ⟨_, rfl⟩
          have hnext := hid (show cOut L n (i + 1) = cIn L i (n + 1 - i) m0 from by rw [cOut, hm0])
          rw [hm0] at hg12 CBI
          clear hm0
          go_loopw [14] (fun jj wq => ∃ j : Nat, jj = .int .i64 (j : Nat) ∧ i + j ≤ n + 1 ∧ Hid (NRowT wq g12 (cIn L i j m0)) ∧ Hid (NRowT wq g11 L) ∧ Hid (Below w.heap.size w wq)) (fun jj wq => n + 1 - (intOf jj).toNat)
          case atStart => exact ⟨0, rfl, by have := IL.out; omega, hg12, hg11, hB⟩
          case round =>
            clear hg12 hg11 hB
            obtain ⟨j, rfl, hj, hg12, hg11, hB⟩ := hrel
            have CBJ := hid (CB.inner CBI.out HLb.out.2 j hj)
            by_cases hlt : i + j ≤ n
            · have q6 : decide ((i : Int) + (j : Int) ≤ (n : Int)) = true := by simp; omega
              have f5 : (0 : Int) ≤ (j : Int) := by omega
              have f6 : (j : Int) < ((n + 1 : Nat) : Int) := by omega
              have f7 : (j : Int) ≤ 256 := by have := HN.out; omega
              have f8 : (i : Int) + (j : Int) < ((n + 1 : Nat) : Int) := by omega
              have f9 : (i : Int) + (j : Int) < (n : Int) + 1 := by omega
              have f10 : (0 : Int) ≤ (i : Int) + (j : Int) := by omega
              have f11 : (j : Int) < (n : Int) + 1 := by omega
              have HLT := hid hlt
              obtain ⟨y, hy⟩ : ∃ y, (cIn L i j m0).getD (i + j) 0 = y := ⟨_, rfl⟩
              obtain ⟨x1, hx1⟩ : ∃ y, L.getD i 0 = y := ⟨_, rfl⟩
              obtain ⟨x2, hx2⟩ : ∃ y, L.getD j 0 = y := ⟨_, rfl⟩
              have b1 : x1 ≤ 2 ^ e3 := hx1 ▸ HLb.out.2 i
              have b2 : x2 ≤ 2 ^ e3 := hx2 ▸ HLb.out.2 j
              have tb : i * (n + 1) + j + 1 ≤ (n + 1) * (n + 1) := by
                have h1 : (i + 1) * (n + 1) ≤ (n + 1) * (n + 1) := Nat.mul_le_mul_right _ (by omega)
                rw [Nat.succ_mul] at h1
                omega
              have by0 : y ≤ 2 ^ e7 := hy ▸ conv_bound HN.out (t := i * (n + 1) + j) (by omega) (CBJ.out.up (i + j))
              have bm : x1 * x2 ≤ 2 ^ e7 := by
                have h1 := Nat.mul_le_mul b1 b2
                rw [← Nat.pow_add] at h1
                exact Nat.le_trans h1 (Nat.pow_le_pow_right (by omega) (by unfold e3 e7; omega))
              have bs : y + x1 * x2 ≤ 2 ^ (e7 + 1) := by rw [Nat.pow_succ]; omega
              have e37 : e3 ≤ 3000 ∧ e7 + 1 ≤ 3000 := by unfold e3 e7; omega
              have P1 := fun V hV => hid (p_times V x1 x2 (two_pow_digits b1 e37.1) (two_pow_digits b2 e37.1) (two_pow_digits bm (by omega)) hV)
              have P2 := fun V hV => hid (p_plus V y (x1 * x2) (two_pow_digits by0 (by omega)) (two_pow_digits bm (by omega)) (two_pow_digits bs e37.2) hV)
              have t1 : wr.cell? ⟨g12, i + j, none⟩ = some (.string (numB y)) := by rw [← hy]; exact hg12.out.cell (by rw [CBJ.out.len]; have := HLT.out; omega)
              have t2 : wr.cell? ⟨g11, i, none⟩ = some (.string (numB x1)) := by rw [← hx1]; exact hg11.out.cell (by rw [HLb.out.1]; exact IL.out)
              have t3 : wr.cell? ⟨g11, j, none⟩ = some (.string (numB x2)) := by rw [← hx2]; exact hg11.out.cell (by rw [HLb.out.1]; have := HLT.out; omega)
              obtain ⟨u1, hu1⟩ : ∃ s, numB y = s := ⟨_, rfl⟩
              obtain ⟨u2, hu2⟩ : ∃ s, numB x1 = s := ⟨_, rfl⟩
              obtain ⟨u3, hu3⟩ : ∃ s, numB x2 = s := ⟨_, rfl⟩
              obtain ⟨u4, hu4⟩ : ∃ s, numB (x1 * x2) = s := ⟨_, rfl⟩
              obtain ⟨u5, hu5⟩ : ∃ s, numB (y + x1 * x2) = s := ⟨_, rfl⟩
              rw [hu2, hu3, hu4] at P1
              rw [hu1, hu4, hu5] at P2
              rw [hu1] at t1
              rw [hu2] at t2
              rw [hu3] at t3
              have hstep := hid (show cIn L i (j + 1) m0 = (cIn L i j m0).set (i + j) (y + x1 * x2) from by rw [cIn, cStep, hy, hx1, hx2])
              have HU5 := hid hu5
              clear hy hx1 hx2 b1 b2 tb by0 bm bs e37 hu1 hu2 hu3 hu4 hu5 hlt hj
              go_wp2_with fail
              have ew : IntKind.i64.wrap ((i : Int) + (j : Int)) = (i : Int) + (j : Int) := by rw [IntWalk.i64_in _ ⟨by omega, by omega⟩]
              have et : ((i : Int) + (j : Int)).toNat = i + j := by omega
              refine held_lasts 20 2 [0, 1, 2, 3, 4, 5, 6, 7, 8, 9, 10, 11, 12, 13, 14, 15, 16, 17] 2 (fun W' => W'.cell? ⟨g12, i + j, none⟩ = some (.string u1) ∧ W'.cell? ⟨g11, i, none⟩ = some (.string u2) ∧ W'.cell? ⟨g11, j, none⟩ = some (.string u3)) (by kernel_rfl) rfl (by kernel_rfl) (by kernel_rfl) (by kernel_rfl) (by kernel_rfl) ⟨t1, t2, t3⟩ ?_
              iterate 18
                refine ⟨_, rfl, ?_⟩
                apply Exists.intro
                refine ⟨.inl ⟨by rfl, ?_⟩, ?_⟩
                · (intro W' hW'; obtain ⟨r1, r2, r3⟩ := hW'; go_simp; try (with_reducible rfl))
                (dsimp only [Act.put]; try simp only [List.setIfInBounds_toArray, List.set_cons_zero, List.set_cons_succ])
              refine held_one (i := 18) (by kernel_rfl) (by rfl) (by rfl) ?_
              go_wp2_with fail
              refine (P1 _ (HLy.out.below hB.out.drew HLL.out)).out.mono ?_; rintro e w5 ⟨rfl, hbc⟩
              have C5 := hid (show Below wr.heap.size wr w5 from (Below.refl _ _).drew.trans hbc)
              have E5 := hid (hg12.out.call C5.out); have F5 := hid (hg11.out.call C5.out); have EB5 := hid (hB.out.trans (C5.out.mono hB.out.size))
              have s1 := (C5.out.cell (cell_lt t1)).trans t1
              have s2 := (C5.out.cell (cell_lt t2)).trans t2
              have s3 := (C5.out.cell (cell_lt t3)).trans t3
              clear hbc t1 t2 t3
              go_wp2_with fail
              refine ⟨⟨s1, s2, s3⟩, ?_⟩
              refine held_one (i := 19) (by kernel_rfl) (by rfl) (by rfl) ?_
              go_wp2_with fail
              refine (P2 _ (HLy.out.below EB5.out HLL.out)).out.mono ?_; rintro e w6 ⟨rfl, hbc⟩
              have E6 := hid (E5.out.call hbc); have F6 := hid (F5.out.call hbc); have EB6 := hid (EB5.out.trans (hbc.mono EB5.out.size))
              have v1 := (hbc.cell (cell_lt s1)).trans s1
              have v2 := (hbc.cell (cell_lt s2)).trans s2
              have v3 := (hbc.cell (cell_lt s3)).trans s3
              clear hbc s1 s2 s3
              go_wp2_with fail
              refine ⟨⟨v1, v2, v3⟩, ?_⟩
              refine wpAnyH_done (by kernel_rfl) ?_ _
              simp only [Only, ThenL, List.drop_succ_cons, List.drop_zero]
              have fz := E6.out.free (i + j)
              clear v2 v3
              go_wp2_with fail
              try simp only [Only]
              go_roundw
              case rel =>
                refine ⟨j + 1, by go_num, by have := HLT.out; omega, ?_, F6.out.other (fun e => NE.out e.symm) _, EB6.out.setCell K12.out _⟩
                show NRowT _ _ _
                rw [hstep.out, ← HU5.out]
                exact E6.out.set (i + j) (y + x1 * x2)
              case measure => simp [intOf] <;> (have := HLT.out; omega)
            · have q6 : decide ((i : Int) + (j : Int) ≤ (n : Int)) = false := by simp; omega
              have e1 : j = n + 1 - i := by omega
              have f7 : (j : Int) ≤ 257 := by have := HN.out; omega
              have f5 : (0 : Int) ≤ (j : Int) := by omega
              subst e1
              clear hj hlt
              go_wp2_with fail
              go_roundw
              case rel => exact ⟨i + 1, by go_num, by have := IL.out; omega, by rw [hnext.out]; exact hg12, hg11, hB⟩
              case measure => simp [intOf] <;> (have := IL.out; omega)
        · have q5 : decide ((i : Int) < ((n + 1 : Nat) : Int)) = false := by simp; omega
          have e1 : i = n + 1 := by omega
          subst e1
          go_wp2_with fail
          go_meet
          exact ⟨⟨g12, rfl, K12.out, by rw [← HMQ.out]; exact hg12.out⟩, hB.out⟩
  case rest =>
    obtain ⟨⟨g, rfl, hg, hrow⟩, hB⟩ := hcut
    have RG := hid hrow; have KG := hid hg; have B3 := hid hB
    have HPow := fun V k (hk : k ≤ 256) hV => hid (g_power V k (by omega) hV)
    clear hrow hg hB
    go_wp2_with fail
    refine (HPow _ n HN.out (HLy.out.call B3.out)).out.mono ?_; rintro e w4 ⟨rfl, hb4⟩
    have RG4 := hid (RG.out.call hb4); have B4 := hid (bnext B3.out hb4)
    clear hb4
    go_wp2_with fail
    go_loopw [15, 82] (fun rr ii wr => ∃ i : Nat, ii = .int .i64 (i : Nat) ∧ i ≤ n + 1 ∧ rr = .string (numB (rIn M n i)) ∧ Hid (NRowT wr g M) ∧ Hid (Below w.heap.size w wr)) (fun rr ii wr => n + 1 - (intOf ii).toNat)
    case atStart => exact ⟨0, rfl, Nat.zero_le _, rfl, RG4, B4⟩
    case round =>
      obtain ⟨i, rfl, hi, rfl, hrow, hB⟩ := hrel
      by_cases hlt : i < n + 1
      · have q5 : decide ((i : Int) < ((n + 1 : Nat) : Int)) = true := by simp; omega
        have f0 : (0 : Int) ≤ (i : Int) := by omega
        have f1 : (i : Int) < ((n + 1 : Nat) : Int) := by omega
        have f2 : (i : Int) ≤ 256 := by have := HN.out; omega
        have f3 : (i : Int) ≤ (n : Int) := by omega
        have w1' : IntKind.i64.wrap ((n : Int) - (i : Int)) = ((n - i : Nat) : Int) := by rw [IntWalk.i64_in _ ⟨by omega, by omega⟩]; omega
        have IL := hid hlt
        obtain ⟨x, hx⟩ : ∃ x, M.getD i 0 = x := ⟨_, rfl⟩
        have t1 : wr.cell? ⟨g, i, none⟩ = some (.string (numB x)) := by rw [← hx]; exact hrow.out.cell (by rw [HMb.out.1]; exact IL.out)
        have bx : x ≤ 2 ^ e7 := hx ▸ HMb.out.2 i
        have hle : x * 2 ^ (n - i) ≤ rIn M n i := hx ▸ HR.out i (by omega)
        have hnx := hid (show rIn M n (i + 1) = rIn M n i - x * 2 ^ (n - i) from by rw [rIn, hx])
        have br := rIn_le M n i
        obtain ⟨r, hr⟩ : ∃ r, rIn M n i = r := ⟨_, rfl⟩
        rw [hr] at hle hnx br ⊢
        have P1 := fun V hV => hid (p_times V x (2 ^ (n - i)) (two_pow_digits bx (by unfold e7; omega)) (two_pow_digits (Nat.le_refl _) (by omega)) (two_pow_digits (Nat.le_trans hle br) (by have := HN.out; omega)) hV)
        have P2 := fun V hV => hid (p_sub V r (x * 2 ^ (n - i)) (two_pow_digits br (by have := HN.out; omega)) (two_pow_digits (Nat.le_trans hle br) (by have := HN.out; omega)) hle hV)
        have P0 := fun V hV => (HPow V (n - i) (by have := HN.out; omega) hV)
        obtain ⟨u1, hu1⟩ : ∃ s, numB x = s := ⟨_, rfl⟩
        obtain ⟨u2, hu2⟩ : ∃ s, numB (2 ^ (n - i)) = s := ⟨_, rfl⟩
        obtain ⟨u3, hu3⟩ : ∃ s, numB (x * 2 ^ (n - i)) = s := ⟨_, rfl⟩
        obtain ⟨u4, hu4⟩ : ∃ s, numB r = s := ⟨_, rfl⟩
        obtain ⟨u5, hu5⟩ : ∃ s, numB (r - x * 2 ^ (n - i)) = s := ⟨_, rfl⟩
        rw [hu2] at P0
        rw [hu1, hu2, hu3] at P1
        rw [hu3, hu4, hu5] at P2
        rw [hu1] at t1
        rw [hu4]
        have HU5 := hid hu5
        clear hx bx hle br hr hu1 hu2 hu3 hu4 hu5 hi hlt HPow
        go_wp2_with fail
        refine (P0 _ (HLy.out.below hB.out HLL.out)).out.mono ?_; rintro e w5 ⟨rfl, hb5⟩
        have R5 := hid (hrow.out.call hb5); have B5 := hid (hB.out.trans (hb5.mono hB.out.size))
        clear hb5 t1
        go_wp2_with fail
        refine (P1 _ (HLy.out.below B5.out HLL.out)).out.mono ?_; rintro e w6 ⟨rfl, hb6⟩
        have R6 := hid (R5.out.call hb6); have B6 := hid (B5.out.trans (hb6.mono B5.out.size))
        clear hb6
        go_wp2_with fail
        refine (P2 _ (HLy.out.below B6.out HLL.out)).out.mono ?_; rintro e w7 ⟨rfl, hb7⟩
        have R7 := hid (R6.out.call hb7); have B7 := hid (B6.out.trans (hb7.mono B6.out.size))
        clear hb7 w1'
        go_wp2_with fail
        go_roundw
        case rel => exact ⟨i + 1, by go_num, by have := IL.out; omega, by rw [hnx.out, HU5.out], R7, B7⟩
        case measure => simp [intOf] <;> (have := IL.out; omega)
      · have q5 : decide ((i : Int) < ((n + 1 : Nat) : Int)) = false := by simp; omega
        have e1 : i = n + 1 := by omega
        subst e1
        obtain ⟨u1, hu1⟩ : ∃ s, numB (rIn M n (n + 1)) = s := ⟨_, rfl⟩
        obtain ⟨u2, hu2⟩ : ∃ s, numB (2 ^ n) = s := ⟨_, rfl⟩
        have P0 := fun V hV => (HPow V n HN.out hV)
        rw [hu1, hu2] at HQM
        rw [hu2] at P0
        rw [hu1]
        clear hu1 hu2 HPow hi hlt
        go_wp2_with fail
        refine (P0 _ (HLy.out.below hB.out HLL.out)).out.mono ?_; rintro e w5 ⟨rfl, hb5⟩
        have B5 := hid (hB.out.trans (hb5.mono hB.out.size))
        clear hb5
        go_wp2_with fail
        refine (HQM _ (HLy.out.below B5.out HLL.out)).out.mono ?_; rintro e w6 ⟨rfl, hb6⟩
        have B6 := hid (B5.out.trans (hb6.mono B5.out.size))
        clear hb6
        go_wp2_with fail
        go_ret2
        exact ⟨rfl, B6.out⟩
end Go.Proofs.YtgphopkifomffaaGreatDoor
namespace Go.Proofs.YtgphopkifomffaaGreatDoor
open Go.RowKit
set_option linter.unusedVariables false
set_option linter.unusedSimpArgs false
def drT (N D : Nat) (two : Bool) (l : List UInt8) : Bool × Int × Int := if two = true then twoT N D l else oneT N D l
theorem drT_is {N D : Nat} (h : N < D) (two : Bool) (l : List UInt8) : ∃ u : Nat, u ≤ l.length ∧ ((valT N D two l = none ∧ drT N D two l = (false, 0, (u : Int))) ∨ (∃ v : Int, -(l.length : Int) ≤ v ∧ v ≤ l.length ∧ valT N D two l = some v ∧ drT N D two l = (true, v, (u : Int)))) := by
  have hb := fun v hv => valT_bd h (two := two) (l := l) (v := v) hv
  unfold valT at hb
  unfold valT drT oneT twoT
  cases hs : s1 N D l 0 0 with
  | none => exact ⟨l.length, Nat.le_refl _, .inl ⟨rfl, by cases two <;> rfl⟩⟩
  | some xp =>
    obtain ⟨x, p⟩ := xp
    obtain ⟨b1, b2⟩ := s1_bd h hs
    rw [hs] at hb
    cases two
    · exact ⟨p, b1, .inr ⟨x, (hb _ rfl).1, (hb _ rfl).2, rfl, rfl⟩⟩
    · simp only [if_true] at hb ⊢
      have hd := s1_drop h (l := l) (a := p) b1 l.length 0 0 (by omega) (by omega)
      rw [Nat.add_zero] at hd
      rw [hd]
      cases hs2 : s1 N D (l.drop p) 0 0 with
      | none => exact ⟨l.length, Nat.le_refl _, .inl ⟨rfl, rfl⟩⟩
      | some yq =>
        obtain ⟨y, q⟩ := yq
        obtain ⟨b3, b4⟩ := s1_bd h hs2
        rw [List.length_drop] at b3
        rw [hs2] at hb
        exact ⟨p + q, by omega, .inr ⟨(x : Int) - (y : Int), (hb _ rfl).1, (hb _ rfl).2, rfl, rfl⟩⟩
theorem late_gL {N D : Nat} (h : N < D) (two : Bool) (n : Nat) : rIn (lateL two (tOut (oneJ N D) (zeroJ N D) n (n + 1)).2 n) n (n + 1) = gL N D two n ∧ ∀ i, i ≤ n → (lateL two (tOut (oneJ N D) (zeroJ N D) n (n + 1)).2 n).getD i 0 * 2 ^ (n - i) ≤ rIn (lateL two (tOut (oneJ N D) (zeroJ N D) n (n + 1)).2 n) n i := by
  have hs : sumN (fun i => (lateL two (tOut (oneJ N D) (zeroJ N D) n (n + 1)).2 n).getD i 0 * 2 ^ (n - i)) (n + 1) = if two = true then cw n (dec2P N D) else cw n (decP N D) := by
    cases two
    · exact tot_dec h n (Nat.le_refl n)
    · rw [if_pos rfl, ← tot_dec2 h n (Nat.le_refl n)]
      unfold lateL
      rw [if_pos rfl]
      refine sumN_congr fun i hi => ?_
      rw [cOut_all (by omega)]; rfl
  have hle : sumN (fun i => (lateL two (tOut (oneJ N D) (zeroJ N D) n (n + 1)).2 n).getD i 0 * 2 ^ (n - i)) (n + 1) ≤ 2 ^ n := by
    rw [hs]
    have h1 := cw_not (dec2P N D) n
    have h2 := cw_not (decP N D) n
    split <;> omega
  refine ⟨?_, rIn_ok hle⟩
  rw [rIn_sum hle _ (Nat.le_refl _), hs]
  cases two
  · exact (gL_dec N D n).symm
  · exact (gL_dec2 N D n).symm
end Go.Proofs.YtgphopkifomffaaGreatDoor
namespace Go.Proofs.YtgphopkifomffaaGreatDoor
open Go.RowKit
def zs (l : List Int) : List Value := l.map (Value.int .i64)
@[simp] theorem zs_length (l : List Int) : (zs l).length = l.length := by simp [zs]
theorem zs_get {l : List Int} {i : Nat} {x : Int} (h : l[i]? = some x) : (zs l)[i]? = some (.int .i64 x) := by simp [zs, h]
theorem Row.openZ {w : World} {v : Value} {l : List Int} (h : Row w v (zs l)) : ∃ a c, v = .slice a l.length c ∧ l.length ≤ c ∧ c ≤ 9223372036854775807 ∧ ∀ (i : Nat) (x : Int), l[i]? = some x → ∃ g o, a = some ⟨g, o, none⟩ ∧ g < w.heap.size ∧ w.cell? ⟨g, o + i, none⟩ = some (.int .i64 x) := by
  obtain ⟨a, c, rfl, h1, h2, h3⟩ := h.ex
  rw [zs_length] at *
  exact ⟨a, c, rfl, h1, by unfold maxLen at h2; omega, fun i x hx => h3 i _ (zs_get hx)⟩
end Go.Proofs.YtgphopkifomffaaGreatDoor
namespace Go.Proofs.YtgphopkifomffaaGreatDoor
open Go.RowKit Go.Shelf
open Go.Lib (decDigits nDigits)
set_option linter.unusedVariables false
set_option linter.unusedSimpArgs false
def wildB (u : Int) : Bool := decide (u < -1125899906842624) || decide (1125899906842624 < u)
def idxZ (p : Int → Bool) (l : List Int) : Int := if l.any p = true then (l.findIdx p : Nat) else -1
set_option maxRecDepth 100000 in
set_option maxHeartbeats 2000000 in
theorem s_IndexFuncI (w : World) (v : Value) (l : List Int) (F : Nat) (p : Int → Bool) (hv : Row w v (zs l)) (hl : l.length ≤ 9223372036854775807) (hen : ∀ args w, (callFunc F args).run Tryz.prog w = .ok (.enter F args) w)
    (hF : ∀ W x, Calls Tryz.prog F #[.int .i64 x] W fun e w' => e = .returned (.bool (p x)) ∧ W = w') :
    Calls Tryz.prog 94 #[v, .func (.func F) #[] #[]] w fun e w' => e = .returned (.int .i64 (idxZ p l)) ∧ w = w' := by
  obtain ⟨a, c, rfl, q1, q2, q3⟩ := hv.openZ
  obtain ⟨n, hn⟩ : ∃ n, l.length = n := ⟨_, rfl⟩
  rw [hn] at q1 hl ⊢
  have HN := hid hn; have Q3 := hid q3; have HF := hid hF
  clear hv q3 hn hF
  go_enter Tryz.func94, Tryz.ntmps94
  go_wp2_with fail
  go_loop [8] (fun ii => ∃ i : Nat, ii = .int .i64 i ∧ i ≤ n ∧ Hid (∀ j x, j < i → l[j]? = some x → p x = false)) (fun ii => n - (intOf ii).toNat)
  case atStart => exact ⟨0, rfl, Nat.zero_le _, fun j x hj => absurd hj (by omega)⟩
  case round =>
    obtain ⟨i, rfl, hi, hI⟩ := hrel
    by_cases hlt : i < n
    · obtain ⟨x, hx⟩ : ∃ x, l[i]? = some x := ⟨_, List.getElem?_eq_getElem (by rw [HN.out]; exact hlt)⟩
      obtain ⟨g, o, rfl, hg, hc⟩ := Q3.out i x hx
      have HX := hid hx
      have b1 : (0 : Int) ≤ (i : Int) := by omega
      have b2 : (i : Int) < (n : Int) := by omega
      have wi : IntKind.i64.wrap ((i : Int) + 1) = ((i + 1 : Nat) : Int) := by rw [IntWalk.i64_in _ ⟨by omega, by omega⟩]; omega
      obtain ⟨z, hz⟩ : ∃ z, p x = z := ⟨_, rfl⟩
      have C := fun W => hid (hz ▸ HF.out W x)
      have HZ := hid hz
      clear hx hz
      go_wp2_with fail
      refine (C _).out.mono ?_; rintro e w1 ⟨rfl, rfl⟩
      cases z
      · go_wp2_with fail
        go_round
        case rel => exact ⟨i + 1, by go_num, by omega, fun j y hj hy => by
          rcases Nat.lt_or_ge j i with h | h
          · exact hI.out j y h hy
          · obtain rfl : j = i := by omega
            rw [HX.out] at hy; cases hy; exact HZ.out⟩
        case measure => simp [intOf] <;> omega
      · have hA : l.any p = true := List.any_eq_true.2 ⟨x, List.mem_of_getElem? HX.out, HZ.out⟩
        have hfi : l.findIdx p = i := by
          have hil : i < l.length := by rw [HN.out]; exact hlt
          rw [List.findIdx_eq hil]
          refine ⟨?_, fun j hj => ?_⟩
          · have := HX.out; rw [List.getElem?_eq_getElem hil] at this; rw [Option.some.inj this]; exact HZ.out
          · exact hI.out j _ hj (List.getElem?_eq_getElem (Nat.lt_trans hj hil))
        have HE := hid (show idxZ p l = (i : Int) from by rw [idxZ, if_pos hA, hfi])
        clear hA hfi
        go_wp2_with fail
        go_ret
        exact ⟨by rw [HE.out]; rfl, rfl⟩
    · obtain rfl : i = n := by omega
      have hA : ¬ l.any p = true := fun h => by
        obtain ⟨x, hx, hp⟩ := List.any_eq_true.1 h
        obtain ⟨j, hj⟩ := List.getElem?_of_mem hx
        have := hI.out j x (by rw [← HN.out]; exact (List.getElem?_eq_some_iff.1 hj).1) hj
        rw [this] at hp; cases hp
      have HE := hid (show idxZ p l = -1 from by rw [idxZ, if_neg hA])
      have q0 : decide ((i : Int) < (i : Int)) = false := by simp
      clear hA hlt
      go_wp2_with fail
      go_ret
      exact ⟨by rw [HE.out]; rfl, rfl⟩
set_option maxRecDepth 100000 in
set_option maxHeartbeats 1000000 in
theorem s_ContainsFuncI (w : World) (v : Value) (l : List Int) (F : Nat) (p : Int → Bool) (hv : Row w v (zs l)) (hl : l.length ≤ 9223372036854775807) (hen : ∀ args w, (callFunc F args).run Tryz.prog w = .ok (.enter F args) w)
    (hF : ∀ W x, Calls Tryz.prog F #[.int .i64 x] W fun e w' => e = .returned (.bool (p x)) ∧ W = w') :
    Calls Tryz.prog 54 #[v, .func (.func F) #[] #[]] w fun e w' => e = .returned (.bool (l.any p)) ∧ w = w' := by
  have HI := hid (s_IndexFuncI w v l F p hv hl hen hF)
  have HB := hid (show decide (0 ≤ idxZ p l) = l.any p from by
    unfold idxZ
    cases h : l.any p
    · rw [if_neg (by simp)]; rfl
    · rw [if_pos rfl]; simp)
  rw [← HB.out]
  obtain ⟨a, c, rfl, -⟩ := hv.openZ
  generalize idxZ p l = z at *
  clear hF hv
  go_enter Tryz.func54, Tryz.ntmps54
  go_wp2_with fail
  refine HI.out.mono ?_; rintro e w1 ⟨rfl, rfl⟩
  go_wp2_with fail
  go_ret
  exact ⟨rfl, rfl⟩
end Go.Proofs.YtgphopkifomffaaGreatDoor
namespace Go.Proofs.YtgphopkifomffaaGreatDoor
open Go.RowKit
open Go.Lib (decDigits nDigits)
set_option linter.unusedVariables false
theorem gE_empty (a : ByteArray) : gE a ⟨#[]⟩ = gPE a := by
  unfold gE
  split
  · rfl
  · rename_i h
    have : gPE a = 0 := Classical.byContradiction h
    rw [this]; decide
theorem chkE_err (s : ByteArray) : chkE s = if bitE s ≠ 0 then bitE s else if 256 < s.size then 4 else 0 := by
  unfold chkE bitE
  split <;> rfl
def bsE : List ByteArray → Int
  | [] => 0
  | s :: r => if chkE s ≠ 0 then chkE s else bsE r
def wdE (l : List ByteArray) (m : Int) : Int := if (l.length : Int) = m then bsE l else 16
theorem bsE_at : ∀ {l : List ByteArray} {i : Nat}, (∀ (j : Nat) (b : ByteArray), j < i → l[j]? = some b → chkE b = 0) → bsE l = bsE (l.drop i)
  | [], i, _ => by simp [bsE]
  | b :: r, 0, _ => rfl
  | b :: r, i + 1, h => by
    have h1 := h 0 b (by omega) rfl
    have h3 := bsE_at (l := r) (i := i) (fun j c hj hc => h (j + 1) c (by omega) (by simpa using hc))
    rw [bsE, if_neg (by simp [h1]), h3]
    rfl
theorem bsE_zero : ∀ {l : List ByteArray}, bsE l = 0 ↔ ∀ b ∈ l, chkE b = 0
  | [] => by simp [bsE]
  | b :: r => by
    rw [bsE]
    by_cases h : chkE b = 0
    · rw [if_neg (by simp [h]), bsE_zero]
      simp [h]
    · rw [if_pos h]
      simp [h]
def zE (c : List Int) : Int := if 256 < c.length then 4 else if c.any wildB = true then 2 else 0
def nz1 (two : Bool) (a : ByteArray) (n : Int) (b : ByteArray) : Option Int := let t := if two = true then wT a b else oT a b; if t.1 = true then some (n + t.2.1) else none
def nzO (two : Bool) (a : ByteArray) : List Int → List ByteArray → Option (List Int)
  | c :: cs, b :: bs => (nz1 two a c b).bind fun x => (nzO two a cs bs).map (x :: ·)
  | _, _ => some []
theorem nzO_late {two : Bool} {a : ByteArray} : ∀ {c : List Int} {b : List ByteArray} (k : Nat) (x : Int) (y : ByteArray), c[k]? = some x → b[k]? = some y → nz1 two a x y = none → nzO two a c b = none
  | c :: cs, b :: bs, 0, x, y, h1, h2, h3 => by
    cases h1; cases h2
    rw [nzO, h3]; rfl
  | c :: cs, b :: bs, k + 1, x, y, h1, h2, h3 => by
    rw [nzO, nzO_late k x y (by simpa using h1) (by simpa using h2) h3]
    cases nz1 two a c b <;> rfl
theorem nzO_all {two : Bool} {a : ByteArray} : ∀ {c : List Int} {b : List ByteArray} {l : List Int}, c.length = b.length → l.length = c.length → (∀ (k : Nat) (x : Int) (y : ByteArray), c[k]? = some x → b[k]? = some y → nz1 two a x y = l[k]?) → nzO two a c b = some l
  | [], [], l, _, hl, _ => by rw [List.length_eq_zero_iff.1 hl]; rfl
  | c :: cs, b :: bs, [], _, hl, _ => by simp at hl
  | c :: cs, b :: bs, z :: r, h1, hl, h => by
    have h0 := h 0 c b rfl rfl
    rw [nzO, h0, nzO_all (l := r) (by simpa using h1) (by simpa using hl) (fun k x y hx hy => by have := h (k + 1) x y (by simpa using hx) (by simpa using hy); simpa using this)]
    rfl
end Go.Proofs.YtgphopkifomffaaGreatDoor
namespace Go.Proofs.YtgphopkifomffaaGreatDoor
open Go.RowKit Go.Shelf
open Go.Lib (decDigits nDigits)
set_option linter.unusedVariables false
set_option linter.unusedSimpArgs false
set_option maxHeartbeats 1000000 in
theorem na_ratio (w : World) (a : ByteArray) (ha : a.size ≤ 100000) (hL : Lay w) :
    Calls Tryz.prog 36 #[.string a] w fun e w' => e = .returned (.int .i64 (gPE a)) ∧ Below w.heap.size w w' := by
  have HG := hid (g_One w a ⟨#[]⟩ ha (by decide) hL)
  rw [gE_empty] at HG
  obtain ⟨t, ht⟩ : ∃ t, oT a ⟨#[]⟩ = t := ⟨_, rfl⟩
  obtain ⟨x, hx⟩ : ∃ x, gPE a = x := ⟨_, rfl⟩
  rw [ht, hx] at HG
  rw [hx]
  obtain ⟨d, v, u⟩ := t
  simp only [d3] at HG
  clear ha hL ht hx
  go_enter Tryz.func36, Tryz.ntmps36
  go_wp2_with fail
  refine HG.out.mono ?_; rintro e w1 ⟨rfl, hb1⟩
  go_wp2_with fail
  go_ret
  exact ⟨rfl, hb1.alloc hb1.size _⟩
theorem na_wild (w : World) (u : Int) : Calls Tryz.prog 55 #[.int .i64 u] w fun e w' => e = .returned (.bool (wildB u)) ∧ w = w' := by
  unfold wildB
  obtain ⟨a, ha⟩ : ∃ a, decide (u < -1125899906842624) = a := ⟨_, rfl⟩
  obtain ⟨b, hb⟩ : ∃ b, decide (1125899906842624 < u) = b := ⟨_, rfl⟩
  rw [ha, hb]
  cases a
  · go_enter Tryz.func55, Tryz.ntmps55
    go_wp2_with fail
    go_ret
    exact ⟨rfl, rfl⟩
  · clear hb
    go_enter Tryz.func55, Tryz.ntmps55
    go_wp2_with fail
    go_ret
    exact ⟨rfl, rfl⟩
theorem na_check (w : World) (v : Value) (c : List Int) (hv : Row w v (zs c)) :
    Calls Tryz.prog 24 #[v] w fun e w' => e = .returned (.int .i64 (zE c)) ∧ w = w' := by
  have HV := hid hv
  obtain ⟨s, cp, rfl, q1, q2, q3⟩ := hv.openZ
  have HC := fun V hV => hid (s_ContainsFuncI V (.slice s c.length cp) c 55 wildB hV (by omega) (enters_of Tryz.func55 (by kernel_rfl) rfl) (fun W x => na_wild W x))
  obtain ⟨n, hn⟩ : ∃ n, c.length = n := ⟨_, rfl⟩
  obtain ⟨b, hb⟩ : ∃ b, c.any wildB = b := ⟨_, rfl⟩
  unfold zE
  simp only [hb, hn] at HC
  rw [hn] at HV ⊢
  rw [hb]
  clear hv q1 q2 q3 hn hb
  by_cases h1 : 256 < n
  · have t1 : decide ((256 : Int) < (n : Int)) = true := by simp; omega
    rw [if_pos h1]
    clear h1
    go_enter Tryz.func24, Tryz.ntmps24
    go_wp2_with fail
    go_ret
    exact ⟨rfl, rfl⟩
  have t1 : decide ((256 : Int) < (n : Int)) = false := by simp; omega
  rw [if_neg h1]
  clear h1
  cases b
  case true =>
    rw [if_pos rfl]
    go_enter Tryz.func24, Tryz.ntmps24
    go_wp2_with fail
    refine (HC _ HV.out).out.mono ?_; rintro e w1 ⟨rfl, rfl⟩
    go_wp2_with fail
    go_ret
    exact ⟨rfl, rfl⟩
  rw [if_neg (by decide)]
  go_enter Tryz.func24, Tryz.ntmps24
  go_wp2_with fail
  refine (HC _ HV.out).out.mono ?_; rintro e w1 ⟨rfl, rfl⟩
  go_wp2_with fail
  go_ret
  exact ⟨rfl, rfl⟩
end Go.Proofs.YtgphopkifomffaaGreatDoor
namespace Go.Proofs.YtgphopkifomffaaGreatDoor
open Go.RowKit Go.Shelf
open Go.Lib (decDigits nDigits)
set_option linter.unusedVariables false
def wB (R : ByteArray) (s : ByteArray) : ByteArray := if qE s = 0 then R else ⟨#[]⟩
def wE (x : Int) (s : ByteArray) : Int := if qE s = 0 then x else qE s
theorem isQ_of {w : World} {v : Value} {s : ByteArray} (hq : qE s = 0) (h : IsF w v (iM (cW s)) (bN (iD (cW s))) (bN (qD s))) : IsQ .u64 w v (vQ s) := by
  obtain ⟨N, D, rfl, h1, h2⟩ := h
  obtain ⟨e1, e2, e3⟩ := vQ_ok hq
  exact ⟨N, D, by rw [e1], by rw [e2]; exact h1, by rw [e3]; exact h2⟩
end Go.Proofs.YtgphopkifomffaaGreatDoor
namespace Go.Proofs.YtgphopkifomffaaGreatDoor
open Go.RowKit Go.Shelf
open Go.Lib (decDigits nDigits)
set_option linter.unusedVariables false
set_option linter.unusedSimpArgs false
set_option maxRecDepth 100000 in
set_option maxHeartbeats 1000000 in
theorem q_with (w : World) (s : ByteArray) (F : Nat) (cs : Array Value) (R : ByteArray) (x : Int) (hs : s.size ≤ 1000000) (hL : Lay w)
    (hen : ∀ args w, (callFunc F args).run Tryz.prog w = .ok (.enter F args) w)
    (hF : ∀ W v, qE s = 0 → Below w.heap.size w W → IsQ .u64 W v (vQ s) → Lay W → Calls Tryz.prog F (#[v] ++ cs) W fun e w' => e = .returned (.tuple #[.string R, .int .i64 x]) ∧ Below W.heap.size W w') :
    Calls Tryz.prog 80 #[.string s, .func (.func F) #[] cs] w fun e w' => e = .returned (.tuple #[.string (wB R s), .int .i64 (wE x s)]) ∧ Below w.heap.size w w' := by
  have HP := hid (f_Parse w s hs hL)
  have HL := hid hL
  have HF := hid hF
  clear hF hs hL
  by_cases h1 : qE s = 0
  · have e1 : wB R s = R := if_pos h1
    have e2 : wE x s = x := if_pos h1
    rw [e1, e2]
    have HQ := hid h1
    rw [h1] at HP
    clear h1 e1 e2
    go_enter Tryz.func80, Tryz.ntmps80
    go_wp2_with fail
    refine HP.out.mono ?_; rintro e w1 ⟨⟨v, rfl, hv, -⟩, hb1⟩
    have hq := isQ_of HQ.out (hv rfl)
    have y1 := hid hb1
    obtain ⟨N, D, hvv, hN, hD⟩ := hv rfl
    subst hvv
    obtain ⟨a, c, rfl, _⟩ := hN.openI
    obtain ⟨a', c', rfl, _⟩ := hD.openI
    obtain ⟨k, hk⟩ : ∃ k, (limbs (bN (iD (cW s)))).length = k := ⟨_, rfl⟩
    obtain ⟨k', hk'⟩ : ∃ k, (limbs (bN (qD s))).length = k := ⟨_, rfl⟩
    obtain ⟨m, hm⟩ : ∃ m, iM (cW s) = m := ⟨_, rfl⟩
    rw [hk, hk', hm] at hq
    rw [hk, hk', hm]
    have Q1 := hid hq
    have X2 := hid (Blk.new w1 #[.bool m, .slice a k c, .slice a' k' c'] 101)
    have b2 := hid ((Below.refl w1.heap.size w1).alloc (Nat.le_refl _) (.cells #[.bool m, .slice a k c, .slice a' k' c'] 101))
    have y2 := hid (bnext y1.out b2.out)
    have Q2 := hid (hq.call b2.out)
    have r0 := X2.out.cell 0
    have r1 := X2.out.cell 1
    have r2 := X2.out.cell 2
    simp at r0 r1 r2
    clear hb1 hv hN hD hk hk' hm hq b2
    go_wp2_with fail
    refine (HF.out _ _ HQ.out y2.out Q2.out (HL.out.call y2.out)).mono ?_; rintro e w3 ⟨rfl, hb3⟩
    have y3 := hid (bnext y2.out hb3); clear hb3
    go_wp2_with fail
    go_ret2
    exact ⟨rfl, y3.out⟩
  · have e1 : wB R s = ⟨#[]⟩ := if_neg h1
    have e2 : wE x s = qE s := if_neg h1
    rw [e1, e2]
    obtain ⟨y, hy⟩ : ∃ y, qE s = y := ⟨_, rfl⟩
    rw [hy] at HP h1 ⊢
    have q0 : (y == 0) = false := by simpa using h1
    have q1 : (y != 0) = true := by simpa using h1
    have H1 := hid h1
    clear e1 e2 hy h1
    go_enter Tryz.func80, Tryz.ntmps80
    go_wp2_with fail
    refine HP.out.mono ?_; rintro e w1 ⟨⟨v, rfl, -, hv⟩, hb1⟩
    have hv' := hv H1.out
    subst hv'
    have y1 := hid hb1
    have y2 := hid (y1.out.alloc y1.out.size (.cells #[.bool false, .slice none 0 0, .slice none 0 0] 101))
    clear hb1 hv
    go_wp2_with fail
    go_ret2
    exact ⟨rfl, y2.out⟩
end Go.Proofs.YtgphopkifomffaaGreatDoor
namespace Go.Proofs.YtgphopkifomffaaGreatDoor
open Go.RowKit Go.Shelf
open Go.Lib (decDigits nDigits)
set_option linter.unusedVariables false
set_option linter.unusedSimpArgs false
def tB (R : ByteArray) (s t : ByteArray) : ByteArray := wB (wB R t) s
def tE (x : Int) (s t : ByteArray) : Int := wE (wE x t) s
set_option maxRecDepth 100000 in
set_option maxHeartbeats 1000000 in
theorem q_both11 (w : World) (v u : Value) (p q : Rat) (F g1 g2 : Nat) (R : ByteArray) (x : Int) (hv : IsQ .u64 w v p) (hu : IsQ .u64 w u q) (hL : Lay w)
    (hen : ∀ args w, (callFunc F args).run Tryz.prog w = .ok (.enter F args) w)
    (c1 : w.cell? ⟨g1, 0, none⟩ = some (.func (.func F) #[] #[])) (m : Bool) (a a' : Option Addr) (k c k' c' : Nat) (hv0 : v = .agg #[.bool m, .slice a k c, .slice a' k' c'])
    (c2 : Blk w g2 #[.bool m, .slice a k c, .slice a' k' c'] 101)
    (hF : ∀ W v u, IsQ .u64 W v p → IsQ .u64 W u q → Lay W → Calls Tryz.prog F #[v, u] W fun e w' => e = .returned (.tuple #[.string R, .int .i64 x]) ∧ Below W.heap.size W w') :
    Calls Tryz.prog 104 #[u, .pointer (some ⟨g1, 0, none⟩), .pointer (some ⟨g2, 0, none⟩)] w fun e w' => e = .returned (.tuple #[.string R, .int .i64 x]) ∧ Below w.heap.size w w' := by
  have HF := hid hF
  have HL := hid hL
  obtain ⟨N, D, rfl, hN, hD⟩ := hu.ex
  obtain ⟨a1, d1, rfl, _⟩ := hN.openI
  obtain ⟨a2, d2, rfl, _⟩ := hD.openI
  obtain ⟨k1, hk1⟩ : ∃ k, (limbs q.num.natAbs).length = k := ⟨_, rfl⟩
  obtain ⟨k2, hk2⟩ : ∃ k, (limbs q.den).length = k := ⟨_, rfl⟩
  obtain ⟨mu, hmu⟩ : ∃ m, decide (q.num < 0) = m := ⟨_, rfl⟩
  rw [hk1, hk2, hmu] at hu
  rw [hk1, hk2, hmu]
  subst hv0
  have X2 := hid (Blk.new w #[.bool mu, .slice a1 k1 d1, .slice a2 k2 d2] 101)
  have b2 := hid ((Below.refl w.heap.size w).alloc (Nat.le_refl _) (.cells #[.bool mu, .slice a1 k1 d1, .slice a2 k2 d2] 101))
  have V2 := hid (hv.call b2.out)
  have U2 := hid (hu.call b2.out)
  have C1 := (b2.out.cell (cell_lt c1)).trans c1
  have C2 := hid (c2.call b2.out)
  have r0 := X2.out.cell 0
  have r1 := X2.out.cell 1
  have r2 := X2.out.cell 2
  have s0 := C2.out.cell 0
  have s1 := C2.out.cell 1
  have s2 := C2.out.cell 2
  simp at r0 r1 r2 s0 s1 s2
  clear hk1 hk2 hmu hN hD hv hu c1 c2 hF hL
  go_enter Tryz.func104, Tryz.ntmps104
  go_wp2_with fail
  refine (HF.out _ _ _ V2.out U2.out (HL.out.call b2.out)).mono ?_; rintro e w3 ⟨rfl, hb3⟩
  have y3 := hid (bnext b2.out hb3); clear hb3
  go_wp2_with fail
  go_ret2
  exact ⟨rfl, y3.out⟩
set_option maxRecDepth 100000 in
set_option maxHeartbeats 1000000 in
theorem q_both1 (w : World) (v : Value) (t : ByteArray) (p : Rat) (F g1 g2 : Nat) (R : ByteArray) (x : Int) (ht : t.size ≤ 1000000) (hv : IsQ .u64 w v p) (hL : Lay w)
    (hen : ∀ args w, (callFunc F args).run Tryz.prog w = .ok (.enter F args) w)
    (c1 : w.cell? ⟨g1, 0, none⟩ = some (.string t)) (c2 : w.cell? ⟨g2, 0, none⟩ = some (.func (.func F) #[] #[]))
    (hF : ∀ W v u, qE t = 0 → IsQ .u64 W v p → IsQ .u64 W u (vQ t) → Lay W → Calls Tryz.prog F #[v, u] W fun e w' => e = .returned (.tuple #[.string R, .int .i64 x]) ∧ Below W.heap.size W w') :
    Calls Tryz.prog 103 #[v, .pointer (some ⟨g1, 0, none⟩), .pointer (some ⟨g2, 0, none⟩)] w fun e w' => e = .returned (.tuple #[.string (wB R t), .int .i64 (wE x t)]) ∧ Below w.heap.size w w' := by
  have HF := hid hF
  have HL := hid hL
  have HEN := hid hen
  obtain ⟨N, D, rfl, hN, hD⟩ := hv.ex
  obtain ⟨a1, d1, rfl, _⟩ := hN.openI
  obtain ⟨a2, d2, rfl, _⟩ := hD.openI
  obtain ⟨k1, hk1⟩ : ∃ k, (limbs p.num.natAbs).length = k := ⟨_, rfl⟩
  obtain ⟨k2, hk2⟩ : ∃ k, (limbs p.den).length = k := ⟨_, rfl⟩
  obtain ⟨mu, hmu⟩ : ∃ m, decide (p.num < 0) = m := ⟨_, rfl⟩
  rw [hk1, hk2, hmu] at hv
  rw [hk1, hk2, hmu]
  have X2 := hid (Blk.new w #[.bool mu, .slice a1 k1 d1, .slice a2 k2 d2] 101)
  have b2 := hid ((Below.refl w.heap.size w).alloc (Nat.le_refl _) (.cells #[.bool mu, .slice a1 k1 d1, .slice a2 k2 d2] 101))
  have V2 := hid (hv.call b2.out)
  have C1 := (b2.out.cell (cell_lt c1)).trans c1
  have C2 := hid ((b2.out.cell (cell_lt c2)).trans c2)
  have L2 := hid (HL.out.call b2.out)
  obtain ⟨w2, hw2⟩ : ∃ w2, w.alloc (.cells #[.bool mu, .slice a1 k1 d1, .slice a2 k2 d2] 101) = w2 := ⟨_, rfl⟩
  obtain ⟨g3, hg3⟩ : ∃ g, w.heap.size = g := ⟨_, rfl⟩
  have W2 := hid (q_with w2 t 104 #[.pointer (some ⟨g2, 0, none⟩), .pointer (some ⟨g3, 0, none⟩)] R x ht (hw2 ▸ L2.out) (enters_of Tryz.func104 (by kernel_rfl) rfl)
    (fun W u hq hb hu hLW => by
      subst hw2
      subst hg3
      have hVW := V2.out.call hb
      have hX := X2.out.call hb
      have hC := (hb.cell (cell_lt C2.out)).trans C2.out
      exact q_both11 W _ u p (vQ t) F g2 w.heap.size R x hVW hu hLW HEN.out hC mu a1 a2 k1 d1 k2 d2 rfl hX (fun W v u h1 h2 h3 => HF.out W v u hq h1 h2 h3)))
  rw [hw2] at C1
  clear hk1 hk2 hmu hN hD hv c1 c2 hF hL hen
  go_enter Tryz.func103, Tryz.ntmps103
  go_wp2_with fail
  refine W2.out.mono ?_; rintro e w3 ⟨rfl, hb3⟩
  have y3 := hid (bnext b2.out (hw2 ▸ hb3)); clear hb3
  go_wp2_with fail
  go_ret2
  exact ⟨rfl, y3.out⟩
end Go.Proofs.YtgphopkifomffaaGreatDoor
namespace Go.Proofs.YtgphopkifomffaaGreatDoor
open Go.RowKit
set_option linter.unusedVariables false
set_option linter.unusedSimpArgs false
def twoF (b : Nat) (m1 m2 : Bool) (n1 d1 n2 d2 : Value) (w : World) : Prop :=
  w.cell? ⟨b, 0, none⟩ = some (.bool m1) ∧ w.cell? ⟨b, 1, none⟩ = some n1 ∧ w.cell? ⟨b, 2, none⟩ = some d1 ∧ w.cell? ⟨b + 1, 0, none⟩ = some (.bool m2) ∧ w.cell? ⟨b + 1, 1, none⟩ = some n2 ∧ w.cell? ⟨b + 1, 2, none⟩ = some d2
structure Three (w W : World) (m1 m2 : Bool) (n1 d1 n2 d2 : Value) : Prop where
  below : Below w.heap.size w W
  size : W.heap.size = w.heap.size + 3
  b0 : Blk W w.heap.size #[.bool m1, n1, d1] 101
  b1 : Blk W (w.heap.size + 1) #[.bool m2, n2, d2] 101
  b2 : Blk W (w.heap.size + 1 + 1) #[.bool false, .slice none 0 0, .slice none 0 0] 101
theorem Three.mk' {w W : World} {m1 m2 : Bool} {n1 d1 n2 d2 : Value} (h : ((w.alloc (.cells #[.bool m1, n1, d1] 101)).alloc (.cells #[.bool m2, n2, d2] 101)).alloc (.cells #[.bool false, .slice none 0 0, .slice none 0 0] 101) = W) : Three w W m1 m2 n1 d1 n2 d2 := by
  subst h
  exact ⟨(((Below.refl _ _).alloc (Nat.le_refl _) _).alloc (by simp) _).alloc (by simp; omega) _, by simp, ((Blk.new w _ _).alloc _).alloc _, (Blk.made (w.alloc _) _ _ (by simp)).alloc _, Blk.made ((w.alloc _).alloc _) _ _ (by simp)⟩
theorem Three.cells {w W V : World} {m1 m2 : Bool} {n1 d1 n2 d2 : Value} (h : Three w W m1 m2 n1 d1 n2 d2) (hb : Below W.heap.size W V) : twoF w.heap.size m1 m2 n1 d1 n2 d2 V :=
  have y0 := h.b0.call hb
  have y1 := h.b1.call hb
  ⟨y0.cell 0, y0.cell 1, y0.cell 2, y1.cell 0, y1.cell 1, y1.cell 2⟩
theorem Three.stored {w W V : World} {m1 m2 : Bool} {n1 d1 n2 d2 : Value} (h : Three w W m1 m2 n1 d1 n2 d2) (hb : Below W.heap.size W V) (x y z : Value) : twoF w.heap.size m1 m2 n1 d1 n2 d2 (((V.setCell ⟨w.heap.size + 1 + 1, 0, none⟩ x).setCell ⟨w.heap.size + 1 + 1, 1, none⟩ y).setCell ⟨w.heap.size + 1 + 1, 2, none⟩ z) :=
  have y0 := ((((h.b0.call hb).other (a := ⟨w.heap.size + 1 + 1, 0, none⟩) (by simp; omega) x).other (a := ⟨w.heap.size + 1 + 1, 1, none⟩) (by simp; omega) y).other (a := ⟨w.heap.size + 1 + 1, 2, none⟩) (by simp; omega) z)
  have y1 := ((((h.b1.call hb).other (a := ⟨w.heap.size + 1 + 1, 0, none⟩) (by simp) x).other (a := ⟨w.heap.size + 1 + 1, 1, none⟩) (by simp) y).other (a := ⟨w.heap.size + 1 + 1, 2, none⟩) (by simp) z)
  ⟨y0.cell 0, y0.cell 1, y0.cell 2, y1.cell 0, y1.cell 1, y1.cell 2⟩
set_option maxRecDepth 100000 in
set_option maxHeartbeats 2000000 in
theorem f_Mul (w : World) (v u : Value) (p q : Rat) (hp : IsQ .u64 w v p) (hq : IsQ .u64 w u q)
    (h1 : (limbs p.num.natAbs).length ≤ 100000) (h2 : (limbs p.den).length ≤ 100000) (h3 : (limbs q.num.natAbs).length ≤ 100000) (h4 : (limbs q.den).length ≤ 100000) :
    Calls Tryz.prog 63 #[v, u] w fun e w' => RetQ .u64 (p * q) e w' ∧ Below w.heap.size w w' := by
  have hq0 := qmk_mul p q
  obtain ⟨Q, hQ⟩ : ∃ Q, p * q = Q := ⟨_, rfl⟩
  rw [hQ] at hq0 ⊢
  have hD := hid (Nat.mul_pos p.den_pos q.den_pos)
  obtain ⟨N1, D1, rfl, hn1, hd1⟩ := hp.ex
  obtain ⟨N2, D2, rfl, hn2, hd2⟩ := hq.ex
  clear hp hq hQ
  generalize decide (p.num < 0) = m1 at *
  generalize decide (q.num < 0) = m2 at *
  generalize p.num.natAbs = n1 at *
  generalize q.num.natAbs = n2 at *
  generalize p.den = d1 at *
  generalize q.den = d2 at *
  have HQ := hid hq0
  clear hq0
  have HN1 := hid hn1; have HD1 := hid hd1; have HN2 := hid hn2; have HD2 := hid hd2
  have L1 := hid (Nat.le_trans (len_mul h1 h3) (show 100000 + 100000 ≤ 1000000 by omega))
  have L2 := hid (Nat.le_trans (len_mul h2 h4) (show 100000 + 100000 ≤ 1000000 by omega))
  have H1 := hid (Nat.le_trans h1 (show 100000 ≤ 1000000 by omega))
  have H2 := hid (Nat.le_trans h2 (show 100000 ≤ 1000000 by omega))
  have H3 := hid (Nat.le_trans h3 (show 100000 ≤ 1000000 by omega))
  have H4 := hid (Nat.le_trans h4 (show 100000 ≤ 1000000 by omega))
  clear h1 h2 h3 h4
  obtain ⟨a1, c1, rfl, _⟩ := hn1.openI
  obtain ⟨a2, c2, rfl, _⟩ := hd1.openI
  obtain ⟨a3, c3, rfl, _⟩ := hn2.openI
  obtain ⟨a4, c4, rfl, _⟩ := hd2.openI
  clear hn1 hd1 hn2 hd2
  go_enter Tryz.func63, Tryz.ntmps63
  go_wp2_with fail
  obtain ⟨W, hW⟩ : ∃ W, ((w.alloc (.cells #[.bool m1, .slice a1 (limbs n1).length c1, .slice a2 (limbs d1).length c2] 101)).alloc (.cells #[.bool m2, .slice a3 (limbs n2).length c3, .slice a4 (limbs d2).length c4] 101)).alloc (.cells #[.bool false, .slice none 0 0, .slice none 0 0] 101) = W := ⟨_, rfl⟩
  have T := hid (Three.mk' hW)
  rw [hW]
  clear hW
  have hS := T.out.cells (Below.refl _ _).drew
  have B0 := hid (T.out.below.drew)
  have C0 := hid ((Below.refl W.heap.size W).drew)
  refine held_plain [0, 1, 2, 3, 4, 5, 6, 7, 8, 10, 11, 12, 13] 4 (twoF w.heap.size m1 m2 (.slice a1 (limbs n1).length c1) (.slice a2 (limbs d1).length c2) (.slice a3 (limbs n2).length c3) (.slice a4 (limbs d2).length c4)) (by kernel_rfl) (by kernel_rfl) (by kernel_rfl) (by kernel_rfl) hS ?_
  iterate 13
    refine ⟨_, rfl, ?_⟩
    apply Exists.intro
    refine ⟨.inl ⟨by rfl, ?_⟩, ?_⟩
    · (intro W' hW'; obtain ⟨q1, q2, q3, q4, q5, q6⟩ := hW'; go_simp; try (with_reducible rfl))
    (dsimp only [Act.put]; try simp only [List.setIfInBounds_toArray, List.set_cons_zero, List.set_cons_succ])
  clear hS
  refine held_one (i := 9) (by kernel_rfl) (by rfl) (by rfl) ?_
  go_wp2_with fail
  refine (l_Mul _ _ _ n1 n2 (HN1.out.call B0.out) (HN2.out.call B0.out) H1.out H3.out).mono ?_; rintro e w1 ⟨⟨v1, rfl, hv1⟩, hb1⟩
  have B1 := hid (B0.out.trans (hb1.mono B0.out.size)); have C1 := hid (bnext C0.out hb1); have V1 := hid hv1
  clear hb1 hv1
  go_wp2_with fail
  refine ⟨T.out.cells C1.out, ?_⟩
  refine held_one (i := 14) (by kernel_rfl) (by rfl) (by rfl) ?_
  go_wp2_with fail
  refine (l_Mul _ _ _ d1 d2 (HD1.out.call B1.out) (HD2.out.call B1.out) H2.out H4.out).mono ?_; rintro e w2 ⟨⟨v2, rfl, hv2⟩, hb2⟩
  have B2 := hid (B1.out.trans (hb2.mono B1.out.size)); have C2 := hid (bnext C1.out hb2); have V2 := hid hv2; have W1 := hid (V1.out.call hb2)
  clear hb2 hv2
  go_wp2_with fail
  refine ⟨T.out.cells C2.out, ?_⟩
  refine held_one (i := 15) (by kernel_rfl) (by rfl) (by rfl) ?_
  go_wp2_with fail
  refine (f_Make _ _ _ _ (n1 * n2) (d1 * d2) W1.out V2.out hD.out L1.out L2.out).mono ?_; rintro e w3 ⟨⟨v3, rfl, hv3⟩, hb3⟩
  have hbn : (!(m1 == m2)) = (m1 != m2) := rfl
  rw [hbn, HQ.out] at hv3
  clear hbn
  have B3 := hid (B2.out.trans (hb3.mono B2.out.size)); have C3 := hid (bnext C2.out hb3)
  clear hb3
  obtain ⟨N3, D3, rfl, hN3, hD3⟩ := hv3.ex
  obtain ⟨a5, c5, rfl, _⟩ := hN3.openI
  obtain ⟨a6, c6, rfl, _⟩ := hD3.openI
  obtain ⟨k5, hk5⟩ : ∃ k, (limbs Q.num.natAbs).length = k := ⟨_, rfl⟩
  obtain ⟨k6, hk6⟩ : ∃ k, (limbs Q.den).length = k := ⟨_, rfl⟩
  obtain ⟨mq, hmq⟩ : ∃ m, decide (Q.num < 0) = m := ⟨_, rfl⟩
  rw [hk5] at hN3 ⊢
  rw [hk6] at hD3 ⊢
  rw [hmq]
  have HN3 := hid hN3; have HD3 := hid hD3; have HMQ := hid hmq
  have Z := hid (T.out.b2.call C3.out)
  have t0 := Z.out.cell 0
  have t1 := Z.out.cell 1
  have t2 := Z.out.cell 2
  have t3 := Z.out.free 0
  have t4 := Z.out.free 1
  have t5 := Z.out.free 2
  simp at t0 t1 t2
  clear hv3 hN3 hD3 hk5 hk6 hmq
  go_wp2_with fail
  refine ⟨T.out.cells C3.out, ?_⟩
  refine held_one (i := 16) (by kernel_rfl) (by rfl) (by rfl) ?_
  go_wp2_with fail
  refine ⟨T.out.stored C3.out _ _ _, ?_⟩
  refine wpAnyH_done (by kernel_rfl) ?_ _
  simp only [Only]
  obtain ⟨s1, s2⟩ := set3 Z.out mq a5 a6 k5 c5 k6 c6
  have f0 := s2.cell 0
  have f1 := s2.cell 1
  have f2 := s2.cell 2
  simp at f0 f1 f2
  clear t0 t1 t2 t3 t4 t5
  go_wp2_with fail
  refine bodyPost_ret (v := .agg #[.bool mq, .slice a5 k5 c5, .slice a6 k6 c6]) (by simp [results, Tryz.results63, go_sem, f0, f1, f2]) rfl ⟨⟨_, rfl, ⟨.slice a5 k5 c5, .slice a6 k6 c6, by rw [HMQ.out], s1 _ _ _ HN3.out, s1 _ _ _ HD3.out⟩⟩, ?_⟩
  exact ((B3.out.setCell (by simp; omega) _).setCell (by simp; omega) _).setCell (by simp; omega) _
end Go.Proofs.YtgphopkifomffaaGreatDoor
namespace Go.Proofs.YtgphopkifomffaaGreatDoor
open Go.RowKit
open Go.Lib (decDigits nDigits)
set_option linter.unusedVariables false
theorem f_Inv (w : World) (v : Value) (q : Rat) (h : IsQ .u64 w v q) (h0 : q ≠ 0) :
    Calls Tryz.prog 83 #[v] w fun e w' => RetQ .u64 q⁻¹ e w' ∧ Below w.heap.size w w' := by
  obtain ⟨N, D, rfl, hn, hd⟩ := h.ex
  obtain ⟨m, hm⟩ : ∃ m, decide (q.num < 0) = m := ⟨_, rfl⟩
  have HN := hid hn; have HD := hid hd; have HM := hid hm; have H0 := hid h0
  rw [hm]
  obtain ⟨a1, c1, rfl, _⟩ := hn.openI
  obtain ⟨a2, c2, rfl, _⟩ := hd.openI
  clear hn hd hm h0 h
  go_enter Tryz.func83, Tryz.ntmps83
  go_wp2_with fail
  obtain ⟨p1, p2, p3⟩ := inv_num H0.out
  have B := ((Below.refl w.heap.size w).alloc (Nat.le_refl _) (.cells #[.bool m, .slice a1 (limbs q.num.natAbs).length c1, .slice a2 (limbs q.den).length c2] 101)).alloc (by simp) (.cells #[.bool m, .slice a2 (limbs q.den).length c2, .slice a1 (limbs q.num.natAbs).length c1] 101)
  refine bodyPost_ret (v := .agg #[.bool m, .slice a2 (limbs q.den).length c2, .slice a1 (limbs q.num.natAbs).length c1]) (by simp [results, Tryz.results83, go_sem]) rfl ⟨⟨_, rfl, ⟨_, _, rfl.trans ?_, by rw [p2]; exact HD.out.call B, by rw [p3]; exact HN.out.call B⟩⟩, B⟩
  rw [p1, HM.out]
def sgQ (q : Rat) : Int := if q.num = 0 then 0 else if q.num < 0 then -1 else 1
theorem sgQ_zero {q : Rat} (h : q.num = 0) : sgQ q = 0 := if_pos h
theorem sgQ_neg {q : Rat} (h : ¬ q.num = 0) (h2 : q.num < 0) : sgQ q = -1 := by rw [sgQ, if_neg h, if_pos h2]
theorem sgQ_pos {q : Rat} (h : ¬ q.num = 0) (h2 : ¬ q.num < 0) : sgQ q = 1 := by rw [sgQ, if_neg h, if_neg h2]
theorem f_Sign (w : World) (v : Value) (q : Rat) (h : IsQ .u64 w v q) :
    Calls Tryz.prog 82 #[v] w fun e w' => e = .returned (.int .i64 (sgQ q)) ∧ Below w.heap.size w w' := by
  obtain ⟨N, D, rfl, hn, hd⟩ := h.ex
  obtain ⟨m, hm⟩ : ∃ m, decide (q.num < 0) = m := ⟨_, rfl⟩
  have HN := hid hn; have HM := hid hm
  rw [hm]
  obtain ⟨a1, c1, rfl, _⟩ := hn.openI
  obtain ⟨a2, c2, rfl, _⟩ := hd.openI
  obtain ⟨k1, hk1⟩ : ∃ k, (limbs q.num.natAbs).length = k := ⟨_, rfl⟩
  obtain ⟨k2, hk2⟩ : ∃ k, (limbs q.den).length = k := ⟨_, rfl⟩
  rw [hk1] at HN ⊢
  rw [hk2]
  have b0 := hid ((Below.refl w.heap.size w).alloc (Nat.le_refl _) (.cells #[.bool m, .slice a1 k1 c1, .slice a2 k2 c2] 101))
  have N0 := hid (HN.out.call b0.out)
  clear hn hd hm h hk1 hk2
  go_enter Tryz.func82, Tryz.ntmps82
  go_wp2_with fail
  refine (l_Zero _ _ _ N0.out).mono ?_; rintro e w1 ⟨rfl, rfl⟩
  by_cases hz : q.num = 0
  · have h1 : isZ q.num.natAbs = true := isZ_iff.2 (by omega)
    rw [h1]
    have HZ := hid hz
    clear h1 hz
    go_wp2_with fail
    go_ret
    exact ⟨ret_int (sgQ_zero HZ.out).symm, b0.out⟩
  · have h1 : isZ q.num.natAbs = false := decide_eq_false (by omega)
    rw [h1]
    have HZ := hid hz
    clear h1 hz
    cases m
    · go_wp2_with fail
      go_ret
      exact ⟨ret_int (sgQ_pos HZ.out (of_decide_eq_false HM.out)).symm, b0.out⟩
    · go_wp2_with fail
      go_ret
      exact ⟨ret_int (sgQ_neg HZ.out (of_decide_eq_true HM.out)).symm, b0.out⟩
theorem neg_partsU {q : Rat} {m : Bool} (hm : decide (q.num < 0) = m) : decide ((-q).num < 0) = (!m && !isZ q.num.natAbs) ∧ (-q).num.natAbs = q.num.natAbs ∧ (-q).den = q.den := by
  refine ⟨?_, by rw [Rat.neg_num, Int.natAbs_neg], Rat.neg_den q⟩
  rw [Rat.neg_num, ← hm, Bool.eq_iff_iff]
  unfold isZ
  simp only [Bool.and_eq_true, Bool.not_eq_true', decide_eq_true_eq, decide_eq_false_iff_not]
  omega
set_option maxRecDepth 100000 in
set_option maxHeartbeats 1000000 in
theorem f_Neg (w : World) (v : Value) (q : Rat) (h : IsQ .u64 w v q) :
    Calls Tryz.prog 106 #[v] w fun e w' => RetQ .u64 (-q) e w' ∧ Below w.heap.size w w' := by
  obtain ⟨N, D, rfl, hn, hd⟩ := h.ex
  obtain ⟨m, hm⟩ : ∃ m, decide (q.num < 0) = m := ⟨_, rfl⟩
  have HN := hid hn; have HD := hid hd; have HP := hid (neg_partsU hm)
  rw [hm]
  obtain ⟨a1, c1, rfl, _⟩ := hn.openI
  obtain ⟨a2, c2, rfl, _⟩ := hd.openI
  obtain ⟨k1, hk1⟩ : ∃ k, (limbs q.num.natAbs).length = k := ⟨_, rfl⟩
  obtain ⟨k2, hk2⟩ : ∃ k, (limbs q.den).length = k := ⟨_, rfl⟩
  rw [hk1] at HN ⊢
  rw [hk2] at HD ⊢
  have HZ := fun W h => hid (l_Zero W (.slice a1 k1 c1) q.num.natAbs h)
  obtain ⟨z, hz⟩ : ∃ z, isZ q.num.natAbs = z := ⟨_, rfl⟩
  rw [hz] at HP HZ
  clear hn hd hm h hk1 hk2 hz
  have b1 := hid (((Below.refl w.heap.size w).alloc (Nat.le_refl _) (.cells #[.bool m, .slice a1 k1 c1, .slice a2 k2 c2] 101)).alloc (by simp) (.cells #[.bool false, .slice none 0 0, .slice none 0 0] 101))
  cases m
  · go_enter Tryz.func106, Tryz.ntmps106
    go_wp2_with fail
    refine region_tail 14 (by kernel_rfl) (by kernel_rfl) ?_
    simp only [List.take_succ_cons, List.take_zero, List.drop_succ_cons, List.drop_zero]
    iterate 6 still_step
    still_call ((HZ _ (HN.out.call b1.out.drew)).out.mono fun _ _ h => ⟨h.1, h.2.symm⟩)
    iterate 7 still_step
    refine wpStill_nil ?_
    go_wp2_with fail
    have b2 := (((Below.refl w.heap.size w).alloc (Nat.le_refl _) (.cells #[.bool false, .slice a1 k1 c1, .slice a2 k2 c2] 101)).alloc (by simp) (.cells #[.bool (!z), .slice a1 k1 c1, .slice a2 k2 c2] 101)).drew
    obtain ⟨p1, p2, p3⟩ := HP.out
    refine bodyPost_ret (v := .agg #[.bool (!z), .slice a1 k1 c1, .slice a2 k2 c2]) (by simp [results, Tryz.results106, go_sem]) rfl ⟨⟨_, rfl, ⟨.slice a1 k1 c1, .slice a2 k2 c2, ?_, ?_, ?_⟩⟩, b2⟩
    · rw [p1]; rfl
    · rw [p2]; exact HN.out.call b2
    · rw [p3]; exact HD.out.call b2
  · go_enter Tryz.func106, Tryz.ntmps106
    go_wp2_with fail
    refine region_tail 14 (by kernel_rfl) (by kernel_rfl) ?_
    simp only [List.take_succ_cons, List.take_zero, List.drop_succ_cons, List.drop_zero]
    iterate 14 still_step
    refine wpStill_nil ?_
    go_wp2_with fail
    have b2 := (((Below.refl w.heap.size w).alloc (Nat.le_refl _) (.cells #[.bool true, .slice a1 k1 c1, .slice a2 k2 c2] 101)).alloc (by simp) (.cells #[.bool false, .slice a1 k1 c1, .slice a2 k2 c2] 101)).drew
    obtain ⟨p1, p2, p3⟩ := HP.out
    refine bodyPost_ret (v := .agg #[.bool false, .slice a1 k1 c1, .slice a2 k2 c2]) (by simp [results, Tryz.results106, go_sem]) rfl ⟨⟨_, rfl, ⟨.slice a1 k1 c1, .slice a2 k2 c2, ?_, ?_, ?_⟩⟩, b2⟩
    · rw [p1]; rfl
    · rw [p2]; exact HN.out.call b2
    · rw [p3]; exact HD.out.call b2
end Go.Proofs.YtgphopkifomffaaGreatDoor
namespace Go.Proofs.YtgphopkifomffaaGreatDoor
open Go.RowKit
set_option linter.unusedVariables false
set_option linter.unusedSimpArgs false
theorem q_add_same {p q : Rat} {m : Bool} (h1 : decide (p.num < 0) = m) (h2 : decide (q.num < 0) = m) : qmk m (p.num.natAbs * q.den + q.num.natAbs * p.den) (p.den * q.den) = p + q := by
  rw [q_add, h1, h2, sgn_same]; rfl
theorem q_add_less {p q : Rat} {m1 m2 : Bool} (h1 : decide (p.num < 0) = m1) (h2 : decide (q.num < 0) = m2) (h : m1 ≠ m2) (hl : p.num.natAbs * q.den < q.num.natAbs * p.den) : qmk m2 (q.num.natAbs * p.den - p.num.natAbs * q.den) (p.den * q.den) = p + q := by
  rw [q_add, h1, h2, sgn_less h hl]; rfl
theorem q_add_more {p q : Rat} {m1 m2 : Bool} (h1 : decide (p.num < 0) = m1) (h2 : decide (q.num < 0) = m2) (h : m1 ≠ m2) (hl : q.num.natAbs * p.den ≤ p.num.natAbs * q.den) : qmk m1 (p.num.natAbs * q.den - q.num.natAbs * p.den) (p.den * q.den) = p + q := by
  rw [q_add, h1, h2, sgn_more h hl]; rfl
set_option maxRecDepth 100000 in
set_option maxHeartbeats 4000000 in
theorem f_Add (w : World) (v u : Value) (p q : Rat) (hp : IsQ .u64 w v p) (hq : IsQ .u64 w u q)
    (h1 : (limbs p.num.natAbs).length ≤ 100000) (h2 : (limbs p.den).length ≤ 100000) (h3 : (limbs q.num.natAbs).length ≤ 100000) (h4 : (limbs q.den).length ≤ 100000) :
    Calls Tryz.prog 105 #[v, u] w fun e w' => RetQ .u64 (p + q) e w' ∧ Below w.heap.size w w' := by
  obtain ⟨m1, hm1⟩ : ∃ m, decide (p.num < 0) = m := ⟨_, rfl⟩
  obtain ⟨m2, hm2⟩ : ∃ m, decide (q.num < 0) = m := ⟨_, rfl⟩
  have s1 := fun (e : m1 = m2) => q_add_same (m := m1) hm1 (hm2.trans e.symm)
  have s2 := q_add_less hm1 hm2
  have s3 := q_add_more hm1 hm2
  obtain ⟨Q, hQ⟩ : ∃ Q, p + q = Q := ⟨_, rfl⟩
  rw [hQ] at s1 s2 s3 ⊢
  have hD := hid (Nat.mul_pos p.den_pos q.den_pos)
  obtain ⟨N1, D1, rfl, hn1, hd1⟩ := hp.ex
  obtain ⟨N2, D2, rfl, hn2, hd2⟩ := hq.ex
  rw [hm1, hm2]
  clear hp hq hQ hm1 hm2
  generalize p.num.natAbs = n1 at *
  generalize q.num.natAbs = n2 at *
  generalize p.den = d1 at *
  generalize q.den = d2 at *
  have S1 := hid s1; have S2 := hid s2; have S3 := hid s3
  have HN1 := hid hn1; have HD1 := hid hd1; have HN2 := hid hn2; have HD2 := hid hd2
  have lx := len_mul h1 h4
  have ly := len_mul h3 h2
  have ld := len_mul h2 h4
  have LX := hid (Nat.le_trans lx (show 100000 + 100000 ≤ 200000 by omega)); have LY := hid (Nat.le_trans ly (show 100000 + 100000 ≤ 200000 by omega)); have LD := hid (Nat.le_trans ld (show 100000 + 100000 ≤ 1000000 by omega))
  have LXY := hid (Nat.le_trans (len_add lx ly) (show 100000 + 100000 + (100000 + 100000) + 1 ≤ 1000000 by omega))
  have H1 := hid (Nat.le_trans h1 (show 100000 ≤ 1000000 by omega))
  have H2 := hid (Nat.le_trans h2 (show 100000 ≤ 1000000 by omega))
  have H3 := hid (Nat.le_trans h3 (show 100000 ≤ 1000000 by omega))
  have H4 := hid (Nat.le_trans h4 (show 100000 ≤ 1000000 by omega))
  clear h1 h2 h3 h4 lx ly ld s1 s2 s3
  obtain ⟨a1, c1, rfl, _⟩ := hn1.openI
  obtain ⟨a2, c2, rfl, _⟩ := hd1.openI
  obtain ⟨a3, c3, rfl, _⟩ := hn2.openI
  obtain ⟨a4, c4, rfl, _⟩ := hd2.openI
  clear hn1 hd1 hn2 hd2
  go_enter Tryz.func105, Tryz.ntmps105
  go_wp2_with fail
  obtain ⟨W, hW⟩ : ∃ W, ((w.alloc (.cells #[.bool m1, .slice a1 (limbs n1).length c1, .slice a2 (limbs d1).length c2] 101)).alloc (.cells #[.bool m2, .slice a3 (limbs n2).length c3, .slice a4 (limbs d2).length c4] 101)).alloc (.cells #[.bool false, .slice none 0 0, .slice none 0 0] 101) = W := ⟨_, rfl⟩
  have T := hid (Three.mk' hW)
  rw [hW]
  clear hW
  have hS := T.out.cells (Below.refl _ _).drew
  have B0 := hid (T.out.below.drew)
  have C0 := hid ((Below.refl W.heap.size W).drew)
  refine held_plain [0, 1, 2, 3, 5, 6, 7, 8] 4 (twoF w.heap.size m1 m2 (.slice a1 (limbs n1).length c1) (.slice a2 (limbs d1).length c2) (.slice a3 (limbs n2).length c3) (.slice a4 (limbs d2).length c4)) (by kernel_rfl) (by kernel_rfl) (by kernel_rfl) (by kernel_rfl) hS ?_
  iterate 8
    refine ⟨_, rfl, ?_⟩
    apply Exists.intro
    refine ⟨.inl ⟨by rfl, ?_⟩, ?_⟩
    · (intro W' hW'; obtain ⟨q1, q2, q3, q4, q5, q6⟩ := hW'; go_simp; try (with_reducible rfl))
    (dsimp only [Act.put]; try simp only [List.setIfInBounds_toArray, List.set_cons_zero, List.set_cons_succ])
  clear hS
  refine held_one (i := 4) (by kernel_rfl) (by rfl) (by rfl) ?_
  go_wp2_with fail
  refine (l_Mul _ _ _ n1 d2 (HN1.out.call B0.out) (HD2.out.call B0.out) H1.out H4.out).mono ?_; rintro e w1 ⟨⟨v1, rfl, hv1⟩, hb1⟩
  have B1 := hid (B0.out.trans (hb1.mono B0.out.size)); have C1 := hid (bnext C0.out hb1); have V1 := hid hv1
  clear hb1 hv1
  go_wp2_with fail
  refine ⟨T.out.cells C1.out, ?_⟩
  refine held_one (i := 9) (by kernel_rfl) (by rfl) (by rfl) ?_
  go_wp2_with fail
  refine (l_Mul _ _ _ n2 d1 (HN2.out.call B1.out) (HD1.out.call B1.out) H3.out H2.out).mono ?_; rintro e w2 ⟨⟨v2, rfl, hv2⟩, hb2⟩
  have B2 := hid (B1.out.trans (hb2.mono B1.out.size)); have C2 := hid (bnext C1.out hb2); have V2 := hid hv2; have W1 := hid (V1.out.call hb2)
  clear hb2 hv2
  go_wp2_with fail
  refine ⟨T.out.cells C2.out, ?_⟩
  refine held_more (is := [10, 11]) (g := 0) (by kernel_rfl) rfl (T.out.cells C2.out) (by kernel_rfl) ?_
  iterate 2
    refine ⟨_, rfl, ?_⟩
    apply Exists.intro
    refine ⟨.inl ⟨by rfl, ?_⟩, ?_⟩
    · (intro W' hW'; clear hW'; go_simp; try (with_reducible rfl))
    (dsimp only [Act.put]; try simp only [List.setIfInBounds_toArray, List.set_cons_zero, List.set_cons_succ])
  refine wpAnyH_done (by kernel_rfl) ?_ _
  simp only [Only]
  obtain ⟨k0, k1, k2, k3, k4, k5⟩ := T.out.cells C2.out
  go_wp2_with fail
  refine (l_Mul _ _ _ d1 d2 (HD1.out.call B2.out) (HD2.out.call B2.out) H2.out H4.out).mono ?_; rintro e w3 ⟨⟨v3, rfl, hv3⟩, hb3⟩
  have B3 := hid (B2.out.trans (hb3.mono B2.out.size)); have C3 := hid (bnext C2.out hb3); have V3 := hid hv3; have X1 := hid (W1.out.call hb3); have X2 := hid (V2.out.call hb3)
  clear hb3 hv3 k0 k1 k2 k3 k4 k5
  go_wp2_with fail
  refine (l_Cmp _ _ _ (n1 * d2) (n2 * d1) X1.out X2.out (Nat.le_trans LX.out (by omega))).mono ?_; rintro e w4 ⟨rfl, hb4⟩
  have B4 := hid (B3.out.trans (hb4.mono B3.out.size)); have C4 := hid (bnext C3.out hb4); have V4 := hid (V3.out.call hb4); have Y1 := hid (X1.out.call hb4); have Y2 := hid (X2.out.call hb4)
  clear hb4
  obtain ⟨k0, k1, k2, k3, k4, k5⟩ := T.out.cells C4.out
  clear B0 B1 B2 B3 C0 C1 C2 C3 V1 V2 V3 W1 X1 X2
  obtain ⟨X, hX⟩ : ∃ X, n1 * d2 = X := ⟨_, rfl⟩
  obtain ⟨Y, hY⟩ : ∃ X, n2 * d1 = X := ⟨_, rfl⟩
  obtain ⟨E, hE⟩ : ∃ X, d1 * d2 = X := ⟨_, rfl⟩
  rw [hX] at S1 S2 S3 LX LXY Y1 ⊢
  rw [hY] at S1 S2 S3 LY LXY Y2 ⊢
  rw [hE] at S1 S2 S3 LD V4 hD
  clear hX hY hE
  by_cases em : m1 = m2
  · have SA := hid (S1.out em)
    subst em
    have q0 : (m1 == m1) = true := beq_self_eq_true m1
    go_wp2_with fail
    have hS := T.out.cells C4.out.drew
    have B0 := hid B4.out.drew
    have C0 := hid C4.out.drew
    refine held_plain [0, 1, 2, 3, 5] 3 (twoF w.heap.size m1 m1 (.slice a1 (limbs n1).length c1) (.slice a2 (limbs d1).length c2) (.slice a3 (limbs n2).length c3) (.slice a4 (limbs d2).length c4)) (by kernel_rfl) (by kernel_rfl) (by kernel_rfl) (by kernel_rfl) hS ?_
    iterate 5
      refine ⟨_, rfl, ?_⟩
      apply Exists.intro
      refine ⟨.inl ⟨by rfl, ?_⟩, ?_⟩
      · (intro W' hW'; obtain ⟨q1, q2, q3, q4, q5, q6⟩ := hW'; go_simp; try (with_reducible rfl))
      (dsimp only [Act.put]; try simp only [List.setIfInBounds_toArray, List.set_cons_zero, List.set_cons_succ])
    clear hS
    refine held_one (i := 4) (by kernel_rfl) (by rfl) (by rfl) ?_
    go_wp2_with fail
    refine (l_Add _ _ _ X Y (Y1.out.call (Below.refl _ _).drew) (Y2.out.call (Below.refl _ _).drew) (Nat.le_trans LX.out (by omega)) (Nat.le_trans LY.out (by omega))).mono ?_; rintro e w5 ⟨⟨v5, rfl, hv5⟩, hb5⟩
    have B5 := hid (B0.out.trans (hb5.mono B0.out.size)); have C5 := hid (C0.out.trans (hb5.mono C0.out.size)); have V5 := hid hv5; have E5 := hid (V4.out.call (show Below w4.heap.size w4 w5 from (Below.refl _ _).drew.trans hb5))
    clear hb5 hv5
    go_wp2_with fail
    refine ⟨T.out.cells C5.out, ?_⟩
    refine held_one (i := 6) (by kernel_rfl) (by rfl) (by rfl) ?_
    go_wp2_with fail
    refine (f_Make _ _ _ _ (X + Y) E V5.out E5.out hD.out (LXY.out) LD.out).mono ?_; rintro e w6 ⟨⟨v3, rfl, hv3⟩, hb6⟩
    rw [SA.out] at hv3
    have B6 := hid (B5.out.trans (hb6.mono B5.out.size)); have C6 := hid (C5.out.trans (hb6.mono C5.out.size))
    clear hb6
    obtain ⟨N3, D3, rfl, hN3, hD3⟩ := hv3.ex
    obtain ⟨a5, c5, rfl, _⟩ := hN3.openI
    obtain ⟨a6, c6, rfl, _⟩ := hD3.openI
    obtain ⟨k5, hk5⟩ : ∃ k, (limbs Q.num.natAbs).length = k := ⟨_, rfl⟩
    obtain ⟨k6, hk6⟩ : ∃ k, (limbs Q.den).length = k := ⟨_, rfl⟩
    obtain ⟨mq, hmq⟩ : ∃ m, decide (Q.num < 0) = m := ⟨_, rfl⟩
    rw [hk5] at hN3 ⊢
    rw [hk6] at hD3 ⊢
    rw [hmq]
    have HN3 := hid hN3; have HD3 := hid hD3; have HMQ := hid hmq
    have Z := hid (T.out.b2.call C6.out)
    have t0 := Z.out.cell 0
    have t1 := Z.out.cell 1
    have t2 := Z.out.cell 2
    have t3 := Z.out.free 0
    have t4 := Z.out.free 1
    have t5 := Z.out.free 2
    simp at t0 t1 t2
    clear hv3 hN3 hD3 hk5 hk6 hmq
    go_wp2_with fail
    refine ⟨T.out.cells C6.out, ?_⟩
    refine held_one (i := 7) (by kernel_rfl) (by rfl) (by rfl) ?_
    go_wp2_with fail
    refine ⟨T.out.stored C6.out _ _ _, ?_⟩
    refine wpAnyH_done (by kernel_rfl) ?_ _
    simp only [Only]
    obtain ⟨s1, s2⟩ := set3 Z.out mq a5 a6 k5 c5 k6 c6
    have f0 := s2.cell 0
    have f1 := s2.cell 1
    have f2 := s2.cell 2
    simp at f0 f1 f2
    clear t0 t1 t2 t3 t4 t5
    go_wp2_with fail
    refine bodyPost_ret (v := .agg #[.bool mq, .slice a5 k5 c5, .slice a6 k6 c6]) (by simp [results, Tryz.results105, go_sem, f0, f1, f2]) rfl ⟨⟨_, rfl, ⟨.slice a5 k5 c5, .slice a6 k6 c6, by rw [HMQ.out], s1 _ _ _ HN3.out, s1 _ _ _ HD3.out⟩⟩, ?_⟩
    exact ((B6.out.setCell (by simp; omega) _).setCell (by simp; omega) _).setCell (by simp; omega) _
  · have q0 : (m1 == m2) = false := by simpa using em
    have HE := hid em
    clear em
    by_cases hc : X < Y
    · have HC := hid hc
      rw [ordN_lt hc]
      clear hc
      go_wp2_with fail
      have hS := T.out.cells C4.out.drew
      have B0 := hid B4.out.drew
      have C0 := hid C4.out.drew
      refine held_plain [0, 1, 2, 3, 5] 3 (twoF w.heap.size m1 m2 (.slice a1 (limbs n1).length c1) (.slice a2 (limbs d1).length c2) (.slice a3 (limbs n2).length c3) (.slice a4 (limbs d2).length c4)) (by kernel_rfl) (by kernel_rfl) (by kernel_rfl) (by kernel_rfl) hS ?_
      iterate 5
        refine ⟨_, rfl, ?_⟩
        apply Exists.intro
        refine ⟨.inl ⟨by rfl, ?_⟩, ?_⟩
        · (intro W' hW'; obtain ⟨q1, q2, q3, q4, q5, q6⟩ := hW'; go_simp; try (with_reducible rfl))
        (dsimp only [Act.put]; try simp only [List.setIfInBounds_toArray, List.set_cons_zero, List.set_cons_succ])
      clear hS
      refine held_one (i := 4) (by kernel_rfl) (by rfl) (by rfl) ?_
      go_wp2_with fail
      refine (l_Sub _ _ _ Y X (Y2.out.call (Below.refl _ _).drew) (Y1.out.call (Below.refl _ _).drew) (Nat.le_of_lt HC.out) (Nat.le_trans LY.out (by omega))).mono ?_; rintro e w5 ⟨⟨v5, rfl, hv5⟩, hb5⟩
      have B5 := hid (B0.out.trans (hb5.mono B0.out.size)); have C5 := hid (C0.out.trans (hb5.mono C0.out.size)); have V5 := hid hv5; have E5 := hid (V4.out.call (show Below w4.heap.size w4 w5 from (Below.refl _ _).drew.trans hb5))
      clear hb5 hv5
      go_wp2_with fail
      refine ⟨T.out.cells C5.out, ?_⟩
      refine held_one (i := 6) (by kernel_rfl) (by rfl) (by rfl) ?_
      go_wp2_with fail
      refine (f_Make _ _ _ _ (Y - X) E V5.out E5.out hD.out (Nat.le_trans (limbs_length_mono (Nat.sub_le Y X)) (Nat.le_trans LY.out (by omega))) LD.out).mono ?_; rintro e w6 ⟨⟨v3, rfl, hv3⟩, hb6⟩
      rw [S2.out HE.out HC.out] at hv3
      have B6 := hid (B5.out.trans (hb6.mono B5.out.size)); have C6 := hid (C5.out.trans (hb6.mono C5.out.size))
      clear hb6
      obtain ⟨N3, D3, rfl, hN3, hD3⟩ := hv3.ex
      obtain ⟨a5, c5, rfl, _⟩ := hN3.openI
      obtain ⟨a6, c6, rfl, _⟩ := hD3.openI
      obtain ⟨k5, hk5⟩ : ∃ k, (limbs Q.num.natAbs).length = k := ⟨_, rfl⟩
      obtain ⟨k6, hk6⟩ : ∃ k, (limbs Q.den).length = k := ⟨_, rfl⟩
      obtain ⟨mq, hmq⟩ : ∃ m, decide (Q.num < 0) = m := ⟨_, rfl⟩
      rw [hk5] at hN3 ⊢
      rw [hk6] at hD3 ⊢
      rw [hmq]
      have HN3 := hid hN3; have HD3 := hid hD3; have HMQ := hid hmq
      have Z := hid (T.out.b2.call C6.out)
      have t0 := Z.out.cell 0
      have t1 := Z.out.cell 1
      have t2 := Z.out.cell 2
      have t3 := Z.out.free 0
      have t4 := Z.out.free 1
      have t5 := Z.out.free 2
      simp at t0 t1 t2
      clear hv3 hN3 hD3 hk5 hk6 hmq
      go_wp2_with fail
      refine ⟨T.out.cells C6.out, ?_⟩
      refine held_one (i := 7) (by kernel_rfl) (by rfl) (by rfl) ?_
      go_wp2_with fail
      refine ⟨T.out.stored C6.out _ _ _, ?_⟩
      refine wpAnyH_done (by kernel_rfl) ?_ _
      simp only [Only]
      obtain ⟨s1, s2⟩ := set3 Z.out mq a5 a6 k5 c5 k6 c6
      have f0 := s2.cell 0
      have f1 := s2.cell 1
      have f2 := s2.cell 2
      simp at f0 f1 f2
      clear t0 t1 t2 t3 t4 t5
      go_wp2_with fail
      refine bodyPost_ret (v := .agg #[.bool mq, .slice a5 k5 c5, .slice a6 k6 c6]) (by simp [results, Tryz.results105, go_sem, f0, f1, f2]) rfl ⟨⟨_, rfl, ⟨.slice a5 k5 c5, .slice a6 k6 c6, by rw [HMQ.out], s1 _ _ _ HN3.out, s1 _ _ _ HD3.out⟩⟩, ?_⟩
      exact ((B6.out.setCell (by simp; omega) _).setCell (by simp; omega) _).setCell (by simp; omega) _
    · have HC := hid (show Y ≤ X by omega)
      have q1 : decide (ordN X Y < 0) = false := by
        rcases Nat.lt_or_ge Y X with h | h
        · rw [ordN_gt h]; rfl
        · rw [show X = Y by omega, ordN_eq]; rfl
      clear hc
      go_wp2_with fail
      have hS := T.out.cells C4.out.drew
      have B0 := hid B4.out.drew
      have C0 := hid C4.out.drew
      refine held_plain [0, 1, 2, 3, 5] 3 (twoF w.heap.size m1 m2 (.slice a1 (limbs n1).length c1) (.slice a2 (limbs d1).length c2) (.slice a3 (limbs n2).length c3) (.slice a4 (limbs d2).length c4)) (by kernel_rfl) (by kernel_rfl) (by kernel_rfl) (by kernel_rfl) hS ?_
      iterate 5
        refine ⟨_, rfl, ?_⟩
        apply Exists.intro
        refine ⟨.inl ⟨by rfl, ?_⟩, ?_⟩
        · (intro W' hW'; obtain ⟨q1, q2, q3, q4, q5, q6⟩ := hW'; go_simp; try (with_reducible rfl))
        (dsimp only [Act.put]; try simp only [List.setIfInBounds_toArray, List.set_cons_zero, List.set_cons_succ])
      clear hS
      refine held_one (i := 4) (by kernel_rfl) (by rfl) (by rfl) ?_
      go_wp2_with fail
      refine (l_Sub _ _ _ X Y (Y1.out.call (Below.refl _ _).drew) (Y2.out.call (Below.refl _ _).drew) HC.out (Nat.le_trans LX.out (by omega))).mono ?_; rintro e w5 ⟨⟨v5, rfl, hv5⟩, hb5⟩
      have B5 := hid (B0.out.trans (hb5.mono B0.out.size)); have C5 := hid (C0.out.trans (hb5.mono C0.out.size)); have V5 := hid hv5; have E5 := hid (V4.out.call (show Below w4.heap.size w4 w5 from (Below.refl _ _).drew.trans hb5))
      clear hb5 hv5
      go_wp2_with fail
      refine ⟨T.out.cells C5.out, ?_⟩
      refine held_one (i := 6) (by kernel_rfl) (by rfl) (by rfl) ?_
      go_wp2_with fail
      refine (f_Make _ _ _ _ (X - Y) E V5.out E5.out hD.out (Nat.le_trans (limbs_length_mono (Nat.sub_le X Y)) (Nat.le_trans LX.out (by omega))) LD.out).mono ?_; rintro e w6 ⟨⟨v3, rfl, hv3⟩, hb6⟩
      rw [S3.out HE.out HC.out] at hv3
      have B6 := hid (B5.out.trans (hb6.mono B5.out.size)); have C6 := hid (C5.out.trans (hb6.mono C5.out.size))
      clear hb6
      obtain ⟨N3, D3, rfl, hN3, hD3⟩ := hv3.ex
      obtain ⟨a5, c5, rfl, _⟩ := hN3.openI
      obtain ⟨a6, c6, rfl, _⟩ := hD3.openI
      obtain ⟨k5, hk5⟩ : ∃ k, (limbs Q.num.natAbs).length = k := ⟨_, rfl⟩
      obtain ⟨k6, hk6⟩ : ∃ k, (limbs Q.den).length = k := ⟨_, rfl⟩
      obtain ⟨mq, hmq⟩ : ∃ m, decide (Q.num < 0) = m := ⟨_, rfl⟩
      rw [hk5] at hN3 ⊢
      rw [hk6] at hD3 ⊢
      rw [hmq]
      have HN3 := hid hN3; have HD3 := hid hD3; have HMQ := hid hmq
      have Z := hid (T.out.b2.call C6.out)
      have t0 := Z.out.cell 0
      have t1 := Z.out.cell 1
      have t2 := Z.out.cell 2
      have t3 := Z.out.free 0
      have t4 := Z.out.free 1
      have t5 := Z.out.free 2
      simp at t0 t1 t2
      clear hv3 hN3 hD3 hk5 hk6 hmq
      go_wp2_with fail
      refine ⟨T.out.cells C6.out, ?_⟩
      refine held_one (i := 7) (by kernel_rfl) (by rfl) (by rfl) ?_
      go_wp2_with fail
      refine ⟨T.out.stored C6.out _ _ _, ?_⟩
      refine wpAnyH_done (by kernel_rfl) ?_ _
      simp only [Only]
      obtain ⟨s1, s2⟩ := set3 Z.out mq a5 a6 k5 c5 k6 c6
      have f0 := s2.cell 0
      have f1 := s2.cell 1
      have f2 := s2.cell 2
      simp at f0 f1 f2
      clear t0 t1 t2 t3 t4 t5
      go_wp2_with fail
      refine bodyPost_ret (v := .agg #[.bool mq, .slice a5 k5 c5, .slice a6 k6 c6]) (by simp [results, Tryz.results105, go_sem, f0, f1, f2]) rfl ⟨⟨_, rfl, ⟨.slice a5 k5 c5, .slice a6 k6 c6, by rw [HMQ.out], s1 _ _ _ HN3.out, s1 _ _ _ HD3.out⟩⟩, ?_⟩
      exact ((B6.out.setCell (by simp; omega) _).setCell (by simp; omega) _).setCell (by simp; omega) _
set_option maxRecDepth 100000 in
set_option maxHeartbeats 2000000 in
theorem f_Sub (w : World) (v u : Value) (p q : Rat) (hp : IsQ .u64 w v p) (hq : IsQ .u64 w u q)
    (h1 : (limbs p.num.natAbs).length ≤ 100000) (h2 : (limbs p.den).length ≤ 100000) (h3 : (limbs q.num.natAbs).length ≤ 100000) (h4 : (limbs q.den).length ≤ 100000) :
    Calls Tryz.prog 60 #[v, u] w fun e w' => RetQ .u64 (p - q) e w' ∧ Below w.heap.size w w' := by
  have e1 : p + -q = p - q := (Rat.sub_eq_add_neg p q).symm
  have F1 := fun V v h => hid (f_Neg V v q h)
  have F2 := fun V v u hv hu => hid (f_Add V v u p (-q) hv hu h1 h2 (by rw [Rat.neg_num, Int.natAbs_neg]; exact h3) (by rw [Rat.neg_den]; exact h4))
  rw [e1] at F2
  obtain ⟨Q, hQ⟩ : ∃ Q, p - q = Q := ⟨_, rfl⟩
  rw [hQ] at F2 ⊢
  have HP := hid hp; have HQ' := hid hq
  obtain ⟨N1, D1, rfl, hn1, hd1⟩ := hp.ex
  obtain ⟨N2, D2, rfl, hn2, hd2⟩ := hq.ex
  obtain ⟨a1, c1, rfl, _⟩ := hn1.openI
  obtain ⟨a2, c2, rfl, _⟩ := hd1.openI
  obtain ⟨a3, c3, rfl, _⟩ := hn2.openI
  obtain ⟨a4, c4, rfl, _⟩ := hd2.openI
  clear hp hq hQ e1 hn1 hd1 hn2 hd2 h1 h2 h3 h4
  obtain ⟨m1, hm1⟩ : ∃ m, decide (p.num < 0) = m := ⟨_, rfl⟩
  obtain ⟨m2, hm2⟩ : ∃ m, decide (q.num < 0) = m := ⟨_, rfl⟩
  obtain ⟨l1, hl1⟩ : ∃ m, (limbs p.num.natAbs).length = m := ⟨_, rfl⟩
  obtain ⟨l2, hl2⟩ : ∃ m, (limbs p.den).length = m := ⟨_, rfl⟩
  obtain ⟨l3, hl3⟩ : ∃ m, (limbs q.num.natAbs).length = m := ⟨_, rfl⟩
  obtain ⟨l4, hl4⟩ : ∃ m, (limbs q.den).length = m := ⟨_, rfl⟩
  rw [hm1, hl1, hl2] at HP
  rw [hm2, hl3, hl4] at HQ'
  rw [hm1, hm2, hl1, hl2, hl3, hl4]
  clear hm1 hm2 hl1 hl2 hl3 hl4
  go_enter Tryz.func60, Tryz.ntmps60
  go_wp2_with fail
  obtain ⟨W, hW⟩ : ∃ W, ((w.alloc (.cells #[.bool m1, .slice a1 l1 c1, .slice a2 l2 c2] 101)).alloc (.cells #[.bool m2, .slice a3 l3 c3, .slice a4 l4 c4] 101)).alloc (.cells #[.bool false, .slice none 0 0, .slice none 0 0] 101) = W := ⟨_, rfl⟩
  have T := hid (Three.mk' hW)
  rw [hW]
  clear hW
  have hS := T.out.cells (Below.refl _ _).drew
  have B0 := hid (T.out.below.drew)
  have C0 := hid ((Below.refl W.heap.size W).drew)
  refine held_plain [0, 1] 3 (twoF w.heap.size m1 m2 (.slice a1 l1 c1) (.slice a2 l2 c2) (.slice a3 l3 c3) (.slice a4 l4 c4)) (by kernel_rfl) (by kernel_rfl) (by kernel_rfl) (by kernel_rfl) hS ?_
  iterate 2
    refine ⟨_, rfl, ?_⟩
    apply Exists.intro
    refine ⟨.inl ⟨by rfl, ?_⟩, ?_⟩
    · (intro W' hW'; obtain ⟨q1, q2, q3, q4, q5, q6⟩ := hW'; go_simp; try (with_reducible rfl))
    (dsimp only [Act.put]; try simp only [List.setIfInBounds_toArray, List.set_cons_zero, List.set_cons_succ])
  clear hS
  refine held_one (i := 2) (by kernel_rfl) (by rfl) (by rfl) ?_
  go_wp2_with fail
  refine (F1 _ _ (HQ'.out.call B0.out)).out.mono ?_; rintro e w1 ⟨⟨v1, rfl, hv1⟩, hb1⟩
  have B1 := hid (B0.out.trans (hb1.mono B0.out.size)); have C1 := hid (bnext C0.out hb1); have V1 := hid hv1
  clear hb1 hv1
  go_wp2_with fail
  refine ⟨T.out.cells C1.out, ?_⟩
  refine held_one (i := 3) (by kernel_rfl) (by rfl) (by rfl) ?_
  go_wp2_with fail
  refine (F2 _ _ _ (HP.out.call B1.out) V1.out).out.mono ?_; rintro e w3 ⟨⟨v3, rfl, hv3⟩, hb3⟩
  have B3 := hid (B1.out.trans (hb3.mono B1.out.size)); have C3 := hid (bnext C1.out hb3)
  clear hb3
  obtain ⟨N3, D3, rfl, hN3, hD3⟩ := hv3.ex
  obtain ⟨a5, c5, rfl, _⟩ := hN3.openI
  obtain ⟨a6, c6, rfl, _⟩ := hD3.openI
  obtain ⟨k5, hk5⟩ : ∃ k, (limbs Q.num.natAbs).length = k := ⟨_, rfl⟩
  obtain ⟨k6, hk6⟩ : ∃ k, (limbs Q.den).length = k := ⟨_, rfl⟩
  obtain ⟨mq, hmq⟩ : ∃ m, decide (Q.num < 0) = m := ⟨_, rfl⟩
  rw [hk5] at hN3 ⊢
  rw [hk6] at hD3 ⊢
  rw [hmq]
  have HN3 := hid hN3; have HD3 := hid hD3; have HMQ := hid hmq
  have Z := hid (T.out.b2.call C3.out)
  have t0 := Z.out.cell 0
  have t1 := Z.out.cell 1
  have t2 := Z.out.cell 2
  have t3 := Z.out.free 0
  have t4 := Z.out.free 1
  have t5 := Z.out.free 2
  simp at t0 t1 t2
  clear hv3 hN3 hD3 hk5 hk6 hmq
  go_wp2_with fail
  refine ⟨T.out.cells C3.out, ?_⟩
  refine held_one (i := 4) (by kernel_rfl) (by rfl) (by rfl) ?_
  go_wp2_with fail
  refine ⟨T.out.stored C3.out _ _ _, ?_⟩
  refine wpAnyH_done (by kernel_rfl) ?_ _
  simp only [Only]
  obtain ⟨s1, s2⟩ := set3 Z.out mq a5 a6 k5 c5 k6 c6
  have f0 := s2.cell 0
  have f1 := s2.cell 1
  have f2 := s2.cell 2
  simp at f0 f1 f2
  clear t0 t1 t2 t3 t4 t5
  go_wp2_with fail
  refine bodyPost_ret (v := .agg #[.bool mq, .slice a5 k5 c5, .slice a6 k6 c6]) (by simp [results, Tryz.results60, go_sem, f0, f1, f2]) rfl ⟨⟨_, rfl, ⟨.slice a5 k5 c5, .slice a6 k6 c6, by rw [HMQ.out], s1 _ _ _ HN3.out, s1 _ _ _ HD3.out⟩⟩, ?_⟩
  exact ((B3.out.setCell (by simp; omega) _).setCell (by simp; omega) _).setCell (by simp; omega) _
end Go.Proofs.YtgphopkifomffaaGreatDoor
namespace Go.Proofs.YtgphopkifomffaaGreatDoor
open Go.RowKit Go.Shelf
open Go.Lib (decDigits nDigits)
set_option linter.unusedVariables false
set_option linter.unusedSimpArgs false
set_option maxRecDepth 100000 in
set_option maxHeartbeats 1000000 in
theorem q_both (w : World) (s t : ByteArray) (F : Nat) (R : ByteArray) (x : Int) (hs : s.size ≤ 1000000) (ht : t.size ≤ 1000000) (hL : Lay w)
    (hen : ∀ args w, (callFunc F args).run Tryz.prog w = .ok (.enter F args) w)
    (hF : ∀ W v u, qE s = 0 → qE t = 0 → IsQ .u64 W v (vQ s) → IsQ .u64 W u (vQ t) → Lay W → Calls Tryz.prog F #[v, u] W fun e w' => e = .returned (.tuple #[.string R, .int .i64 x]) ∧ Below W.heap.size W w') :
    Calls Tryz.prog 58 #[.string s, .string t, .func (.func F) #[] #[]] w fun e w' => e = .returned (.tuple #[.string (tB R s t), .int .i64 (tE x s t)]) ∧ Below w.heap.size w w' := by
  have HF := hid hF
  have HL := hid hL
  have HEN := hid hen
  have HT := hid ht
  have b1 := hid ((Below.refl w.heap.size w).alloc (Nat.le_refl _) (.cells #[.string t] 22))
  obtain ⟨w1, hw1⟩ : ∃ w1, w.alloc (.cells #[.string t] 22) = w1 := ⟨_, rfl⟩
  obtain ⟨g1, hg1⟩ : ∃ g, w.heap.size = g := ⟨_, rfl⟩
  have X1 := hid (Blk.new w #[.string t] 22)
  rw [hw1] at b1
  rw [hw1, hg1] at X1
  have b2 := hid ((Below.refl w1.heap.size w1).alloc (Nat.le_refl _) (.cells #[.func (.func F) #[] #[]] 104))
  obtain ⟨w2, hw2⟩ : ∃ w2, w1.alloc (.cells #[.func (.func F) #[] #[]] 104) = w2 := ⟨_, rfl⟩
  have X2 := hid (Blk.new w1 #[.func (.func F) #[] #[]] 104)
  have X12 := hid (X1.out.call b2.out)
  have y2 := hid (bnext b1.out b2.out)
  have hg2 : w1.heap.size = g1 + 1 := by rw [← hw1, ← hg1]; simp
  rw [hw2] at b2 X12 y2
  rw [hw2, hg2] at X2
  have L2 := hid (HL.out.call y2.out)
  have W2 := hid (q_with w2 s 103 #[.pointer (some ⟨g1, 0, none⟩), .pointer (some ⟨g1 + 1, 0, none⟩)] (wB R t) (wE x t) hs L2.out (enters_of Tryz.func103 (by kernel_rfl) rfl)
    (fun W v hq hb hv hLW => by
      have hX1 := (X12.out.call hb).cell 0
      have hX2 := (X2.out.call hb).cell 0
      exact q_both1 W v t (vQ s) F g1 (g1 + 1) R x HT.out hv hLW HEN.out hX1 hX2 (fun W v u h0 h1 h2 h3 => HF.out W v u hq h0 h1 h2 h3)))
  have HW1 := hid hw1; have HW2 := hid hw2; have HG1 := hid hg1
  clear hF hL hen hs ht hw1 hw2 hg1 hg2 b1
  go_enter Tryz.func58, Tryz.ntmps58
  go_wp2_with fail
  have hw1 := HW1.out; have hw2 := HW2.out; have hg1 := HG1.out
  rw [hw1, hg1, hw2]
  refine W2.out.mono ?_; rintro e w3 ⟨rfl, hb3⟩
  have y3 := hid (bnext y2.out hb3)
  clear hb3 hw1 hw2 hg1
  go_wp2_with fail
  go_ret2
  exact ⟨rfl, by have := y3.out; exact this⟩
end Go.Proofs.YtgphopkifomffaaGreatDoor
namespace Go.Proofs.YtgphopkifomffaaGreatDoor
open Go.RowKit Go.Shelf
open Go.Lib (decDigits nDigits)
set_option linter.unusedVariables false
set_option linter.unusedSimpArgs false
structure Sml (K : Nat) (q : Rat) : Prop where
  n : (limbs q.num.natAbs).length ≤ K
  d : (limbs q.den).length ≤ K
theorem sml_vQ {s : ByteArray} (h : qE s = 0) : Sml 1000 (vQ s) := by
  obtain ⟨-, e2, e3⟩ := vQ_ok h
  obtain ⟨-, -, -, l1, l2, -⟩ := valid h
  exact ⟨by rw [e2]; exact Nat.le_trans (limbs_of_digits l1) (by omega), by rw [e3]; exact Nat.le_trans (limbs_of_digits l2) (by omega)⟩
theorem Sml.up {K L : Nat} {q : Rat} (h : Sml K q) (hl : K ≤ L) : Sml L q := ⟨Nat.le_trans h.n hl, Nat.le_trans h.d hl⟩
theorem sml_neg {K : Nat} {q : Rat} (h : Sml K q) : Sml K (-q) := ⟨by rw [Rat.neg_num, Int.natAbs_neg]; exact h.n, by rw [Rat.neg_den]; exact h.d⟩
theorem sml_mk {K : Nat} {z : Int} {d : Nat} (hd : 0 < d) (h1 : (limbs z.natAbs).length ≤ K) (h2 : (limbs d).length ≤ K) : Sml K (mkRat z d) := by
  refine ⟨?_, ?_⟩
  · rw [Rat.num_mkRat, if_neg (by omega)]
    refine Nat.le_trans (limbs_length_mono ?_) h1
    exact Int.natAbs_ediv_le_natAbs _ _
  · rw [Rat.den_mkRat, if_neg (by omega)]
    exact Nat.le_trans (limbs_length_mono (Nat.div_le_self _ _)) h2
theorem sml_mulK {K L : Nat} {p q : Rat} (hp : Sml K p) (hq : Sml L q) : Sml (K + L) (p * q) := by
  rw [← qmk_mul]
  unfold qmk
  exact sml_mk (Nat.mul_pos p.den_pos q.den_pos) (by rw [sgn_natAbs]; exact limbs_mul hp.n hq.n) (limbs_mul hp.d hq.d)
theorem sml_addK {K L : Nat} {p q : Rat} (hp : Sml K p) (hq : Sml L q) : Sml (K + L + (K + L) + 1) (p + q) := by
  rw [q_add]
  refine sml_mk (Nat.mul_pos p.den_pos q.den_pos) ?_ (Nat.le_trans (limbs_mul hp.d hq.d) (by omega))
  refine Nat.le_trans (limbs_length_mono (sgn_abs_le _ _ _ _)) ?_
  exact Nat.le_trans (len_add (limbs_mul hp.n hq.d) (limbs_mul hq.n hp.d)) (by omega)
theorem sml_mul {p q : Rat} (hp : Sml 1000 p) (hq : Sml 1000 q) : Sml 10000 (p * q) := (sml_mulK hp hq).up (by omega)
theorem sml_add {p q : Rat} (hp : Sml 1000 p) (hq : Sml 1000 q) : Sml 10000 (p + q) := (sml_addK hp hq).up (by omega)
theorem sml_sub {p q : Rat} (hp : Sml 1000 p) (hq : Sml 1000 q) : Sml 10000 (p - q) := by rw [Rat.sub_eq_add_neg]; exact sml_add hp (sml_neg hq)
theorem t2B {f : Rat → Rat → Rat} {s t : ByteArray} : tB (outB (f (vQ s) (vQ t))) s t = op2B f s t := by
  unfold tB wB op2B
  by_cases h1 : qE s = 0 <;> by_cases h2 : qE t = 0 <;> simp [h1, h2]
theorem t2E {f : Rat → Rat → Rat} {s t : ByteArray} : tE (outE (f (vQ s) (vQ t))) s t = op2E f s t := by
  unfold tE wE op2E
  by_cases h1 : qE s = 0 <;> by_cases h2 : qE t = 0 <;> simp [h1, h2]
set_option maxRecDepth 100000 in
set_option maxHeartbeats 1000000 in
theorem q_Mul1 (w : World) (v u : Value) (p q : Rat) (hp : IsQ .u64 w v p) (hq : IsQ .u64 w u q) (sp : Sml 1000 p) (sq : Sml 1000 q) (hL : Lay w) :
    Calls Tryz.prog 62 #[v, u] w fun e w' => e = .returned (.tuple #[.string (outB (p * q)), .int .i64 (outE (p * q))]) ∧ Below w.heap.size w w' := by
  have F1 := fun V v u hv hu => hid (f_Mul V v u p q hv hu (Nat.le_trans sp.n (by omega)) (Nat.le_trans sp.d (by omega)) (Nat.le_trans sq.n (by omega)) (Nat.le_trans sq.d (by omega)))
  have SQ := sml_mul sp sq
  have F2 := fun V v hv hV => hid (f_Num V v (p * q) hv (Nat.le_trans SQ.n (by omega)) (Nat.le_trans SQ.d (by omega)) hV)
  obtain ⟨Q, hQ⟩ : ∃ Q, p * q = Q := ⟨_, rfl⟩
  rw [hQ] at F1 F2 ⊢
  have HL := hid hL
  obtain ⟨N1, D1, rfl, hn1, hd1⟩ := hp.ex
  obtain ⟨N2, D2, rfl, hn2, hd2⟩ := hq.ex
  obtain ⟨a1, c1, rfl, _⟩ := hn1.openI
  obtain ⟨a2, c2, rfl, _⟩ := hd1.openI
  obtain ⟨a3, c3, rfl, _⟩ := hn2.openI
  obtain ⟨a4, c4, rfl, _⟩ := hd2.openI
  obtain ⟨k1, hk1⟩ : ∃ k, (limbs p.num.natAbs).length = k := ⟨_, rfl⟩
  obtain ⟨k2, hk2⟩ : ∃ k, (limbs p.den).length = k := ⟨_, rfl⟩
  obtain ⟨k3, hk3⟩ : ∃ k, (limbs q.num.natAbs).length = k := ⟨_, rfl⟩
  obtain ⟨k4, hk4⟩ : ∃ k, (limbs q.den).length = k := ⟨_, rfl⟩
  obtain ⟨m1, hm1⟩ : ∃ m, decide (p.num < 0) = m := ⟨_, rfl⟩
  obtain ⟨m2, hm2⟩ : ∃ m, decide (q.num < 0) = m := ⟨_, rfl⟩
  rw [hk1, hk2, hm1] at hp ⊢
  rw [hk3, hk4, hm2] at hq ⊢
  have X1 := hid (Blk.new w #[.bool m1, .slice a1 k1 c1, .slice a2 k2 c2] 101)
  have b1 := hid ((Below.refl w.heap.size w).alloc (Nat.le_refl _) (.cells #[.bool m1, .slice a1 k1 c1, .slice a2 k2 c2] 101))
  have Y1 := hid (X1.out.alloc (.cells #[.bool m2, .slice a3 k3 c3, .slice a4 k4 c4] 101))
  have X2 := hid (Blk.new (w.alloc (.cells #[.bool m1, .slice a1 k1 c1, .slice a2 k2 c2] 101)) #[.bool m2, .slice a3 k3 c3, .slice a4 k4 c4] 101)
  have b2 := hid (b1.out.alloc b1.out.size (.cells #[.bool m2, .slice a3 k3 c3, .slice a4 k4 c4] 101))
  have P2 := hid (hp.call b2.out)
  have Q2 := hid (hq.call b2.out)
  have r0 := Y1.out.cell 0
  have r1 := Y1.out.cell 1
  have r2 := Y1.out.cell 2
  have s0 := X2.out.cell 0
  have s1 := X2.out.cell 1
  have s2 := X2.out.cell 2
  simp at r0 r1 r2 s0 s1 s2
  clear hk1 hk2 hk3 hk4 hm1 hm2 hn1 hn2 hd1 hd2 hp hq hL sp sq SQ hQ
  go_enter Tryz.func62, Tryz.ntmps62
  go_wp2_with fail
  refine (F1 _ _ _ P2.out Q2.out).out.mono ?_; rintro e w3 ⟨⟨v3, rfl, hv3⟩, hb3⟩
  have y3 := hid (bnext b2.out hb3)
  obtain ⟨N3, D3, rfl, hn3, hd3⟩ := hv3.ex
  obtain ⟨a5, c5, rfl, _⟩ := hn3.openI
  obtain ⟨a6, c6, rfl, _⟩ := hd3.openI
  obtain ⟨k5, hk5⟩ : ∃ k, (limbs Q.num.natAbs).length = k := ⟨_, rfl⟩
  obtain ⟨k6, hk6⟩ : ∃ k, (limbs Q.den).length = k := ⟨_, rfl⟩
  obtain ⟨m3, hm3⟩ : ∃ m, decide (Q.num < 0) = m := ⟨_, rfl⟩
  rw [hk5, hk6, hm3] at hv3 ⊢
  have V3 := hid hv3
  clear hb3 hv3 hn3 hd3 hk5 hk6 hm3
  go_wp2_with fail
  refine (F2 _ _ V3.out (HL.out.call y3.out)).out.mono ?_; rintro e w4 ⟨rfl, hb4⟩
  have y4 := hid (bnext y3.out hb4); clear hb4
  go_wp2_with fail
  go_ret2
  exact ⟨rfl, y4.out⟩
set_option maxRecDepth 100000 in
set_option maxHeartbeats 1000000 in
theorem q_Mul (w : World) (s t : ByteArray) (hs : s.size ≤ 1000000) (ht : t.size ≤ 1000000) (hL : Lay w) :
    Calls Tryz.prog 30 #[.string s, .string t] w fun e w' => e = .returned (.tuple #[.string (op2B (· * ·) s t), .int .i64 (op2E (· * ·) s t)]) ∧ Below w.heap.size w w' := by
  have H := hid (q_both w s t 62 (outB (vQ s * vQ t)) (outE (vQ s * vQ t)) hs ht hL (enters_of Tryz.func62 (by kernel_rfl) rfl)
    (fun W v u h1 h2 hv hu hLW => q_Mul1 W v u _ _ hv hu (sml_vQ h1) (sml_vQ h2) hLW))
  rw [t2B, t2E (f := (· * ·))] at H
  obtain ⟨B, hB⟩ : ∃ B, op2B (· * ·) s t = B := ⟨_, rfl⟩
  obtain ⟨E, hE⟩ : ∃ E, op2E (· * ·) s t = E := ⟨_, rfl⟩
  rw [hB, hE] at H ⊢
  clear hB hE hs ht hL
  go_enter Tryz.func30, Tryz.ntmps30
  go_wp2_with fail
  refine H.out.mono ?_; rintro e w1 ⟨rfl, hb1⟩
  have y1 := hid hb1; clear hb1
  go_wp2_with fail
  go_ret2
  exact ⟨rfl, y1.out⟩
set_option maxRecDepth 100000 in
set_option maxHeartbeats 1000000 in
theorem q_Sub1 (w : World) (v u : Value) (p q : Rat) (hp : IsQ .u64 w v p) (hq : IsQ .u64 w u q) (sp : Sml 1000 p) (sq : Sml 1000 q) (hL : Lay w) :
    Calls Tryz.prog 59 #[v, u] w fun e w' => e = .returned (.tuple #[.string (outB (p - q)), .int .i64 (outE (p - q))]) ∧ Below w.heap.size w w' := by
  have F1 := fun V v u hv hu => hid (f_Sub V v u p q hv hu (Nat.le_trans sp.n (by omega)) (Nat.le_trans sp.d (by omega)) (Nat.le_trans sq.n (by omega)) (Nat.le_trans sq.d (by omega)))
  have SQ := sml_sub sp sq
  have F2 := fun V v hv hV => hid (f_Num V v (p - q) hv (Nat.le_trans SQ.n (by omega)) (Nat.le_trans SQ.d (by omega)) hV)
  obtain ⟨Q, hQ⟩ : ∃ Q, p - q = Q := ⟨_, rfl⟩
  rw [hQ] at F1 F2 ⊢
  have HL := hid hL
  obtain ⟨N1, D1, rfl, hn1, hd1⟩ := hp.ex
  obtain ⟨N2, D2, rfl, hn2, hd2⟩ := hq.ex
  obtain ⟨a1, c1, rfl, _⟩ := hn1.openI
  obtain ⟨a2, c2, rfl, _⟩ := hd1.openI
  obtain ⟨a3, c3, rfl, _⟩ := hn2.openI
  obtain ⟨a4, c4, rfl, _⟩ := hd2.openI
  obtain ⟨k1, hk1⟩ : ∃ k, (limbs p.num.natAbs).length = k := ⟨_, rfl⟩
  obtain ⟨k2, hk2⟩ : ∃ k, (limbs p.den).length = k := ⟨_, rfl⟩
  obtain ⟨k3, hk3⟩ : ∃ k, (limbs q.num.natAbs).length = k := ⟨_, rfl⟩
  obtain ⟨k4, hk4⟩ : ∃ k, (limbs q.den).length = k := ⟨_, rfl⟩
  obtain ⟨m1, hm1⟩ : ∃ m, decide (p.num < 0) = m := ⟨_, rfl⟩
  obtain ⟨m2, hm2⟩ : ∃ m, decide (q.num < 0) = m := ⟨_, rfl⟩
  rw [hk1, hk2, hm1] at hp ⊢
  rw [hk3, hk4, hm2] at hq ⊢
  have X1 := hid (Blk.new w #[.bool m1, .slice a1 k1 c1, .slice a2 k2 c2] 101)
  have b1 := hid ((Below.refl w.heap.size w).alloc (Nat.le_refl _) (.cells #[.bool m1, .slice a1 k1 c1, .slice a2 k2 c2] 101))
  have Y1 := hid (X1.out.alloc (.cells #[.bool m2, .slice a3 k3 c3, .slice a4 k4 c4] 101))
  have X2 := hid (Blk.new (w.alloc (.cells #[.bool m1, .slice a1 k1 c1, .slice a2 k2 c2] 101)) #[.bool m2, .slice a3 k3 c3, .slice a4 k4 c4] 101)
  have b2 := hid (b1.out.alloc b1.out.size (.cells #[.bool m2, .slice a3 k3 c3, .slice a4 k4 c4] 101))
  have P2 := hid (hp.call b2.out)
  have Q2 := hid (hq.call b2.out)
  have r0 := Y1.out.cell 0
  have r1 := Y1.out.cell 1
  have r2 := Y1.out.cell 2
  have s0 := X2.out.cell 0
  have s1 := X2.out.cell 1
  have s2 := X2.out.cell 2
  simp at r0 r1 r2 s0 s1 s2
  clear hk1 hk2 hk3 hk4 hm1 hm2 hn1 hn2 hd1 hd2 hp hq hL sp sq SQ hQ
  go_enter Tryz.func59, Tryz.ntmps59
  go_wp2_with fail
  refine (F1 _ _ _ P2.out Q2.out).out.mono ?_; rintro e w3 ⟨⟨v3, rfl, hv3⟩, hb3⟩
  have y3 := hid (bnext b2.out hb3)
  obtain ⟨N3, D3, rfl, hn3, hd3⟩ := hv3.ex
  obtain ⟨a5, c5, rfl, _⟩ := hn3.openI
  obtain ⟨a6, c6, rfl, _⟩ := hd3.openI
  obtain ⟨k5, hk5⟩ : ∃ k, (limbs Q.num.natAbs).length = k := ⟨_, rfl⟩
  obtain ⟨k6, hk6⟩ : ∃ k, (limbs Q.den).length = k := ⟨_, rfl⟩
  obtain ⟨m3, hm3⟩ : ∃ m, decide (Q.num < 0) = m := ⟨_, rfl⟩
  rw [hk5, hk6, hm3] at hv3 ⊢
  have V3 := hid hv3
  clear hb3 hv3 hn3 hd3 hk5 hk6 hm3
  go_wp2_with fail
  refine (F2 _ _ V3.out (HL.out.call y3.out)).out.mono ?_; rintro e w4 ⟨rfl, hb4⟩
  have y4 := hid (bnext y3.out hb4); clear hb4
  go_wp2_with fail
  go_ret2
  exact ⟨rfl, y4.out⟩
set_option maxRecDepth 100000 in
set_option maxHeartbeats 1000000 in
theorem q_Sub (w : World) (s t : ByteArray) (hs : s.size ≤ 1000000) (ht : t.size ≤ 1000000) (hL : Lay w) :
    Calls Tryz.prog 29 #[.string s, .string t] w fun e w' => e = .returned (.tuple #[.string (op2B (· - ·) s t), .int .i64 (op2E (· - ·) s t)]) ∧ Below w.heap.size w w' := by
  have H := hid (q_both w s t 59 (outB (vQ s - vQ t)) (outE (vQ s - vQ t)) hs ht hL (enters_of Tryz.func59 (by kernel_rfl) rfl)
    (fun W v u h1 h2 hv hu hLW => q_Sub1 W v u _ _ hv hu (sml_vQ h1) (sml_vQ h2) hLW))
  rw [t2B, t2E (f := (· - ·))] at H
  obtain ⟨B, hB⟩ : ∃ B, op2B (· - ·) s t = B := ⟨_, rfl⟩
  obtain ⟨E, hE⟩ : ∃ E, op2E (· - ·) s t = E := ⟨_, rfl⟩
  rw [hB, hE] at H ⊢
  clear hB hE hs ht hL
  go_enter Tryz.func29, Tryz.ntmps29
  go_wp2_with fail
  refine H.out.mono ?_; rintro e w1 ⟨rfl, hb1⟩
  have y1 := hid hb1; clear hb1
  go_wp2_with fail
  go_ret2
  exact ⟨rfl, y1.out⟩
end Go.Proofs.YtgphopkifomffaaGreatDoor
namespace Go.Proofs.YtgphopkifomffaaGreatDoor
open Go.RowKit Go.Shelf
open Go.Lib (decDigits nDigits)
set_option linter.unusedVariables false
theorem make_ints (n : Nat) (hn : n ≤ 3000000) (W : World) : (Instr.makeSlice 24 (.int .i64 (n : Int)) (.int .i64 (n : Int))).run Tryz.prog W = .ok (.slice (some ⟨W.heap.size, 0, none⟩) n n) (W.alloc (.cells (madeCells #[.int .i64 0] n) 3)) :=
  run_make_row' (P := Tryz.prog) 24 3 (.int .i64 0) 8 Tryz.underlying24 (by kernel_rfl) rfl .i64 .i64 n (by omega) (by omega) W
end Go.Proofs.YtgphopkifomffaaGreatDoor
namespace Go.Proofs.YtgphopkifomffaaGreatDoor
open Go.RowKit
open Go.Lib (decDigits nDigits)
set_option linter.unusedVariables false
structure Few (ws : List Nat) : Prop where
  len : ws.length ≤ 64
  dig : ∀ x ∈ ws, nDigits x ≤ 300
  pos : 0 < ws.sum
section
variable {ws : List Nat} {m : Nat} (h : Few ws) (hm : m ≤ 256)
include h
include hm
omit hm
end
end Go.Proofs.YtgphopkifomffaaGreatDoor
namespace Go.Proofs.YtgphopkifomffaaGreatDoor
open Go.RowKit Go.Shelf
open Go.Lib (decDigits nDigits)
set_option linter.unusedVariables false
theorem shB_ne {a b : Nat} (hb : b ≠ 0) (h1 : nDigits a ≤ 4000) (h2 : nDigits b ≤ 4000) (ha : a ≠ 0) : shB a b ≠ ⟨#[48]⟩ := fun e => by
  rw [← shB_zero b, shB_tx hb h1 h2, shB_tx hb (by rw [nDigits_zero]; omega) h2] at e
  have e' := congrArg vQ e
  rw [vQ_txQ, vQ_txQ] at e'
  have h3 := (Rat.mkRat_eq_iff hb hb).1 e'
  have h4 : ((a * b : Nat) : Int) = 0 := by rw [Int.natCast_mul, h3]; simp
  have hp : 0 < a * b := Nat.mul_pos (by omega) (by omega)
  omega
end Go.Proofs.YtgphopkifomffaaGreatDoor
namespace Go.Proofs.YtgphopkifomffaaGreatDoor
open Go.RowKit
open Go.Lib (decDigits nDigits)
set_option linter.unusedVariables false
section
variable {g : Int → Nat} {n : Nat} (hg : ∀ v : Int, v < 0 → g v = 0) (hz : zS n g ≤ 2 ^ n)
include hg hz
omit hg hz in
omit hg hz in
end
theorem dy_eq_zero {x m : Nat} (hx : x ≤ 2 ^ m) (h : m ≤ 1000) : dyB x m = ⟨#[48]⟩ ↔ x = 0 :=
  ⟨fun e => Classical.byContradiction fun h0 => shB_ne (pow_ne m) (dy_nd hx h) (dy_nd (Nat.le_refl _) h) h0 e, fun e => e ▸ dy_zero m⟩
end Go.Proofs.YtgphopkifomffaaGreatDoor
namespace Go.Proofs.YtgphopkifomffaaGreatDoor
open Go.RowKit
open Go.Lib (decDigits nDigits)
set_option linter.unusedVariables false
theorem zs_pow {g : Int → Nat} {n : Nat} (hz : zS n g ≤ 2 ^ n) (i : Nat) : zS n g ^ i ≤ 2 ^ (n * i) := by
  rw [Nat.pow_mul]
  exact Nat.pow_le_pow_left hz i
def sV (f : Int → Nat) (l : List Int) : Nat := (l.map f).sum
theorem sV_take {f : Int → Nat} {l : List Int} {i : Nat} {v : Int} (h : l[i]? = some v) : sV f (l.take (i + 1)) = sV f (l.take i) + f v := by
  unfold sV
  rw [List.take_add_one, h, Option.toList_some, List.map_append, List.sum_append]; simp
theorem sV_le {f : Int → Nat} {l : List Int} (i : Nat) : sV f (l.take i) ≤ sV f l := by
  have e : sV f l = sV f (l.take i) + sV f (l.drop i) := by
    conv => lhs; rw [← List.take_append_drop i l]
    unfold sV
    rw [List.map_append, List.sum_append]
  omega
theorem sV_perm {f : Int → Nat} {l m : List Int} (h : l.Perm m) : sV f l = sV f m := (h.map f).sum_nat
def Runs (g : Int → Nat) (n : Nat) (l : List Int) : Prop := ∀ f : Int → Nat, (∀ v, g v = 0 → f v = 0) → sV f l = zS n f
section
variable {gA gC : Int → Nat} {n : Nat} {kA kC : List Int} (hA : zS n gA ≤ 2 ^ n) (hC : zS n gC ≤ 2 ^ n) (rA : Runs gA n kA) (rC : Runs gC n kC)
end
end Go.Proofs.YtgphopkifomffaaGreatDoor
namespace Go.Proofs.YtgphopkifomffaaGreatDoor
open Go.RowKit
open Go.Lib (decDigits nDigits)
set_option linter.unusedVariables false
theorem dyB_size {x m : Nat} (hx : x ≤ 2 ^ m) (h : m ≤ 1000) : (dyB x m).size ≤ 10000 := by unfold dyB shB; exact outB_size _
end Go.Proofs.YtgphopkifomffaaGreatDoor
namespace Go.Proofs.YtgphopkifomffaaGreatDoor
open Go.RowKit
open Go.Lib (decDigits nDigits)
set_option linter.unusedVariables false
def chV (g : Int → Nat) (n j : Nat) : List Int := ((List.range j).map fun (i : Nat) => (i : Int) - n).filter fun v => decide (g v ≠ 0)
theorem chV_succ (g : Int → Nat) (n j : Nat) : chV g n (j + 1) = chV g n j ++ if g ((j : Int) - n) = 0 then [] else [(j : Int) - n] := by
  unfold chV
  rw [List.range_succ, List.map_append, List.filter_append, List.map_singleton]
  by_cases h : g ((j : Int) - n) = 0
  · simp [h]
  · simp [h]
theorem chV_mem {g : Int → Nat} {n j : Nat} {v : Int} : v ∈ chV g n j ↔ ∃ i : Nat, i < j ∧ v = (i : Int) - n ∧ g v ≠ 0 := by
  unfold chV
  rw [List.mem_filter, List.mem_map, decide_eq_true_iff]
  constructor
  · rintro ⟨⟨i, hi, rfl⟩, h⟩
    exact ⟨i, List.mem_range.1 hi, rfl, h⟩
  · rintro ⟨i, hi, rfl, h⟩
    exact ⟨⟨i, List.mem_range.2 hi, rfl⟩, h⟩
theorem chV_length (g : Int → Nat) (n j : Nat) : (chV g n j).length ≤ j := by
  unfold chV
  refine Nat.le_trans (List.length_filter_le _ _) ?_
  simp
def smV (f : Int → Nat) (l : List Int) : Nat := (l.map f).sum
theorem smV_snoc (f : Int → Nat) (l : List Int) (v : Int) : smV f (l ++ [v]) = smV f l + f v := by simp [smV]
theorem smV_chV {f g : Int → Nat} (hf : ∀ v, g v = 0 → f v = 0) (n : Nat) : ∀ j, smV f (chV g n j) = sumN (fun i => f ((i : Int) - n)) j
  | 0 => rfl
  | j + 1 => by
    rw [chV_succ, sumN, ← smV_chV hf n j]
    split
    · rename_i h
      rw [List.append_nil, hf _ h, Nat.add_zero]
    · rw [smV_snoc]
theorem smV_all {f g : Int → Nat} (hf : ∀ v, g v = 0 → f v = 0) (n : Nat) : smV f (chV g n (2 * n + 1)) = zS n f := smV_chV hf n _
def chA (g : Int → Nat) (n : Nat) : List Int := chV g n (2 * n + 1)
theorem chA_g {g : Int → Nat} {n : Nat} {v : Int} (h : v ∈ chA g n) : -(n : Int) ≤ v ∧ v ≤ n ∧ g v ≠ 0 := by
  obtain ⟨i, h1, rfl, h2⟩ := chV_mem.1 h
  exact ⟨by omega, by omega, h2⟩
theorem chA_length (g : Int → Nat) (n : Nat) : (chA g n).length ≤ 2 * n + 1 := chV_length g n _
end Go.Proofs.YtgphopkifomffaaGreatDoor
namespace Go.Proofs
open Go.Shelf
def Tryz.sortMW_ren : Go.Shelf.Ren := ⟨fun | 14 => 65 | 20 => 113 | 21 => 114 | 22 => 115 | 23 => 116 | 24 => 117 | 25 => 118 | 26 => 119 | 27 => 120 | 46 => 174 | 47 => 175 | 48 => 176 | 49 => 177 | 50 => 178 | 15 => 66 | 57 => 220 | 28 => 121 | 29 => 122 | n => n, fun | 24 => 40 | 22 => 25 | 3 => 3 | 25 => 71 | 4 => 4 | 0 => 0 | 46 => 146 | 45 => 145 | 50 => 150 | 66 => 204 | 39 => 107 | 55 => 120 | 70 => 208 | 76 => 250 | 77 => 251 | 53 => 153 | 5 => 5 | 9 => 9 | n => n, fun | n => n⟩
theorem Tryz.sortMW : Go.Proofs.SlLaysF0.n14 Tryz.prog Tryz.sortMW_ren := {
  mixed := by kernel_rfl
  f14 := ⟨Tryz.f65.name, by decide, Tryz.func65.trans (congrArg some (by kernel_rfl))⟩
  f15 := Tryz.func66.trans (congrArg some (by kernel_rfl))
  f20 := ⟨Tryz.f113.name, by decide, Tryz.func113.trans (congrArg some (by kernel_rfl))⟩
  f21 := ⟨Tryz.f114.name, by decide, Tryz.func114.trans (congrArg some (by kernel_rfl))⟩
  f22 := ⟨Tryz.f115.name, by decide, Tryz.func115.trans (congrArg some (by kernel_rfl))⟩
  f23 := ⟨Tryz.f116.name, by decide, Tryz.func116.trans (congrArg some (by kernel_rfl))⟩
  f24 := ⟨Tryz.f117.name, by decide, Tryz.func117.trans (congrArg some (by kernel_rfl))⟩
  f25 := ⟨Tryz.f118.name, by decide, Tryz.func118.trans (congrArg some (by kernel_rfl))⟩
  f26 := ⟨Tryz.f119.name, by decide, Tryz.func119.trans (congrArg some (by kernel_rfl))⟩
  f27 := ⟨Tryz.f120.name, by decide, Tryz.func120.trans (congrArg some (by kernel_rfl))⟩
  f28 := Tryz.func121.trans (congrArg some (by kernel_rfl))
  f29 := Tryz.func122.trans (congrArg some (by kernel_rfl))
  f46 := ⟨Tryz.f174.name, by decide, Tryz.func174.trans (congrArg some (by kernel_rfl))⟩
  f47 := Tryz.func175.trans (congrArg some (by kernel_rfl))
  f48 := Tryz.func176.trans (congrArg some (by kernel_rfl))
  f49 := ⟨Tryz.f177.name, by decide, Tryz.func177.trans (congrArg some (by kernel_rfl))⟩
  f50 := ⟨Tryz.f178.name, by decide, Tryz.func178.trans (congrArg some (by kernel_rfl))⟩
  f57 := ⟨Tryz.f220.name, by decide, Tryz.func220.trans (congrArg some (by kernel_rfl))⟩
  t0 := Tryz.underlying0
  a0 := Tryz.isAgg0
  z0 := Tryz.sizeOf0
  v0 := Tryz.zeroValue0
  t3 := Tryz.underlying3
  a3 := Tryz.isAgg3
  z3 := Tryz.sizeOf3
  v3 := Tryz.zeroValue3
  t4 := Tryz.underlying4
  a4 := Tryz.isAgg4
  z4 := Tryz.sizeOf4
  v4 := Tryz.zeroValue4
  t5 := Tryz.underlying5
  a5 := Tryz.isAgg5
  z5 := Tryz.sizeOf5
  v5 := Tryz.zeroValue5
  t9 := Tryz.underlying9
  a9 := Tryz.isAgg9
  z9 := Tryz.sizeOf9
  v9 := Tryz.zeroValue9
  t22 := Tryz.underlying25
  a22 := Tryz.isAgg25
  z22 := Tryz.sizeOf25
  v22 := Tryz.zeroValue25
  t25 := Tryz.underlying71
  a25 := Tryz.isAgg71
  z25 := Tryz.sizeOf71
  v25 := Tryz.zeroValue71
  t39 := Tryz.underlying107
  a39 := Tryz.isAgg107
  z39 := Tryz.sizeOf107
  v39 := Tryz.zeroValue107
  t45 := Tryz.underlying145
  a45 := Tryz.isAgg145
  z45 := Tryz.sizeOf145
  v45 := Tryz.zeroValue145
  t46 := Tryz.underlying146
  a46 := Tryz.isAgg146
  z46 := Tryz.sizeOf146
  v46 := Tryz.zeroValue146
  t50 := Tryz.underlying150
  a50 := Tryz.isAgg150
  z50 := Tryz.sizeOf150
  v50 := Tryz.zeroValue150
  t53 := Tryz.underlying153
  a53 := Tryz.isAgg153
  z53 := Tryz.sizeOf153
  v53 := Tryz.zeroValue153
  t55 := Tryz.underlying120
  a55 := Tryz.isAgg120
  z55 := Tryz.sizeOf120
  v55 := Tryz.zeroValue120
  t66 := Tryz.underlying204
  a66 := Tryz.isAgg204
  z66 := Tryz.sizeOf204
  v66 := Tryz.zeroValue204
  t70 := Tryz.underlying208
  a70 := Tryz.isAgg208
  z70 := Tryz.sizeOf208
  v70 := Tryz.zeroValue208
  t76 := Tryz.underlying250
  a76 := Tryz.isAgg250
  z76 := Tryz.sizeOf250
  v76 := Tryz.zeroValue250
  t77 := Tryz.underlying251
  a77 := Tryz.isAgg251
  z77 := Tryz.sizeOf251
  v77 := Tryz.zeroValue251 }
def Tryz.lenW_ren : Go.Shelf.Ren := ⟨fun | 125 => 66 | 128 => 121 | 129 => 122 | n => n, fun | 46 => 107 | 3 => 3 | 51 => 153 | 53 => 120 | 4 => 4 | 5 => 5 | 9 => 9 | n => n, fun | n => n⟩
theorem Tryz.lenW : Go.Proofs.Lays.n125 Tryz.prog Tryz.lenW_ren := {
  mixed := by kernel_rfl
  f125 := Tryz.func66.trans (congrArg some (by kernel_rfl))
  f128 := Tryz.func121.trans (congrArg some (by kernel_rfl))
  f129 := Tryz.func122.trans (congrArg some (by kernel_rfl))
  t3 := Tryz.underlying3
  a3 := Tryz.isAgg3
  z3 := Tryz.sizeOf3
  v3 := Tryz.zeroValue3
  t4 := Tryz.underlying4
  a4 := Tryz.isAgg4
  z4 := Tryz.sizeOf4
  v4 := Tryz.zeroValue4
  t5 := Tryz.underlying5
  a5 := Tryz.isAgg5
  z5 := Tryz.sizeOf5
  v5 := Tryz.zeroValue5
  t9 := Tryz.underlying9
  a9 := Tryz.isAgg9
  z9 := Tryz.sizeOf9
  v9 := Tryz.zeroValue9
  t46 := Tryz.underlying107
  a46 := Tryz.isAgg107
  z46 := Tryz.sizeOf107
  v46 := Tryz.zeroValue107
  t51 := Tryz.underlying153
  a51 := Tryz.isAgg153
  z51 := Tryz.sizeOf153
  v51 := Tryz.zeroValue153
  t53 := Tryz.underlying120
  a53 := Tryz.isAgg120
  z53 := Tryz.sizeOf120
  v53 := Tryz.zeroValue120 }
end Go.Proofs
