/- Texts that the proof rests on, merged: Gl2, Gl3, Gd1, Gd2, Fn1, Fd2, Fd11, Fn2, Df0, Fd14, KoA, Tz, Pq0. -/
import Derived.Test.YtckihjfkafdncaaGreatDoorKt8
import Derived.Maps.RangeWalk
import Derived.Maps.StringElems
import Derived.Maps.OwnSet
import Derived.Deep.DeepCutAuto
import Derived.WalkLawsBesides
import Derived.Lib.SliceRun
import Derived.Deep.AppendLies
set_option linter.unusedVariables false
set_option linter.unusedSimpArgs false
set_option linter.unusedSectionVars false
set_option maxRecDepth 100000
set_option maxHeartbeats 8000000
namespace Go.Proofs.YtckihjfkafdncaaGreatDoor
open Go.RowKit
open Go.Maps
open Go.Lib (decDigits nDigits)
theorem g_law1 {H : Type} (w : World) (a : ByteArray) (n N D : Nat) (ha : a.size ≤ 100000) (he : gPE a = 0) (hn : n ≤ 32) (hN : bN (cW a) = N) (hD : bN (qD a) = D) (hND : N < D) (hL : Lay w) :
 Calls Tryz.prog 182 #[.string a, .int .i64 n, .bool false] w fun e w' => (∃ B nn Dm, e = .returned (.map (some B)) ∧ w.heap.size ≤ B ∧ nn ≤ 3000000 ∧ w'.ownsMap Tryz.prog 3 (plainElem (H := H) Tryz.prog 22) B nn Dm ∧ ReadsI Dm (gV N D false n)) ∧ Below w.heap.size w w' := by
 have HE := hid (g_ends w a n N D ha he hn hN hD hND hL)
 have HAT : Hid (∀ V gt i k, TabR V gt n (ednL N D n) → i ≤ n → k ≤ n → Calls Tryz.prog 244 #[.pointer (some ⟨gt, 0, none⟩), .int .i64 (i : Nat), .int .i64 (k : Nat)] V fun e w' => e = .returned (.string (numB (edn N D i k))) ∧ V = w') := fun V gt i k hT hi hk => by
  have := tb_at V gt n i k (ednL N D n) hT hi hk (by omega)
  unfold ednL at this
  rw [fnL_get hk] at this
  exact this
 have HPW := fun V k (hk : k ≤ 1000) hV => hid (g_power V k hk hV)
 have EB : Hid (∀ i k, i ≤ n → k ≤ n → edn N D i k ≤ 2 ^ 200) := fun i k hi hk => Nat.le_trans (edn_bd hn i k hk) (Nat.pow_le_pow_right (by omega) (by omega))
 have HL := hid hL; have HLL := hid hL.lt; have HN := hid hn; have HND := hid hND
 have wn : IntKind.i64.wrap ((n : Int) + 1) = ((n + 1 : Nat) : Int) := by rw [IntWalk.i64_in _ ⟨by omega, by omega⟩]; omega
 have hmm := @run_makeMap Tryz.prog
 clear ha he hn hN hD hND hL
 go_enter Tryz.func182, Tryz.ntmps182
 go_wp2_with fail
 refine HE.out.mono ?_; rintro e w1 ⟨⟨gt, rfl, hgt, hT⟩, hb1⟩
 have T1 := hid hT; have B1 := hid hb1
 clear hT hb1 HE hgt
 have TK : Hid (∀ V, Below w1.heap.size w1 V → TabR V gt n (ednL N D n)) := fun V hV => T1.out.call hV
 have LK : Hid (∀ V, Below w1.heap.size w1 V → Lay V) := fun V hV => (HL.out.call B1.out).call hV
 have HR0 : Hid (∀ V, Below w1.heap.size w1 V → ∃ g c, n + 1 ≤ c ∧ c ≤ 9223372036854775807 ∧ V.cell? ⟨gt, 0, none⟩ = some (.slice (some ⟨g, 0, none⟩) (n + 1) c)) := fun V hV => by
  obtain ⟨-, g, c, h1, h2, h3, -, -⟩ := TK.out V hV
  exact ⟨g, c, h1, h2, h3⟩
 have G0 : Hid (GlS H w1 (w1.alloc (.map #[] 0)) w1.heap.size 0 (fun _ => 0)) := ⟨(Below.refl _ _).alloc (Nat.le_refl _) _, 0, .map [], Nat.le_refl _, World.ownsMap_made _ _ _ _, ReadsI.nil⟩
 obtain ⟨g, c, hc1, hc2, r0⟩ := HR0.out _ G0.out.bel
 clear T1
 go_wp2_with fail
 obtain ⟨W1, hW1⟩ : ∃ W, w1.alloc (.map #[] 0) = W := ⟨_, rfl⟩
 obtain ⟨B, hB⟩ : ∃ B, w1.heap.size = B := ⟨_, rfl⟩
 have HB := hid hB
 have G1 : Hid (GlS H w1 W1 B 0 (fun _ => 0)) := by rw [← hW1, ← hB]; exact G0.out
 rw [hW1, hB]
 clear hW1 hB G0 r0 hc1 hc2
 go_loopw [22] (fun ii wr => ∃ i : Nat, ii = .int .i64 (i : Nat) ∧ i ≤ n + 1 ∧ Hid (GlS H w1 wr B (i * 64000) (c1 N D n i 0))) (fun ii wr => n + 1 - (intOf ii).toNat)
 case atStart => exact ⟨0, rfl, Nat.zero_le _, hid (by rw [c1_zero]; exact G1.out)⟩
 case round =>
  obtain ⟨i, rfl, hi, hG⟩ := hrel
  by_cases hlt : i < n + 1
  ·have q0 : decide ((i : Int) < ((n + 1 : Nat) : Int)) = true := by simp; omega
   have di : decide ((i : Int) < (n : Int) + 1) = true := by simp; omega
   have IL := hid hlt
   have f2 : (i : Int) ≤ 100 := by have := HN.out; omega
   clear hi hlt
   go_wp2_with fail
   go_loopw [27] (fun ss wq => ∃ s : Nat, ss = .int .i64 (s : Nat) ∧ s ≤ n + 1 ∧ Hid (GlS H w1 wq B (i * 64000 + s * 1600) (c1 N D n i s))) (fun ss wq => n + 1 - (intOf ss).toNat)
   case atStart => exact ⟨0, rfl, Nat.zero_le _, hid (hG.out.mono (by omega) rfl)⟩
   case round =>
    clear hG
    obtain ⟨s, rfl, hs, hG⟩ := hrel
    by_cases hlt : s < n + 1
    ·have q0 : decide ((s : Int) < ((n + 1 : Nat) : Int)) = true := by simp; omega
     have d30 : decide ((s : Int) < (n : Int) + 1) = true := by simp; omega
     have SL := hid hlt
     have f3 : (s : Int) ≤ 100 := by have := HN.out; omega
     have A1 := fun V hV => hid (HAT.out V gt i s (TK.out V hV) (by have := IL.out; omega) (by have := SL.out; omega))
     obtain ⟨x, hx⟩ : ∃ x, edn N D i s = x := ⟨_, rfl⟩
     rw [hx] at A1
     have bx : x ≤ 2 ^ 200 := hx ▸ EB.out i s (by have := IL.out; omega) (by have := SL.out; omega)
     by_cases hx0 : x = 0
     ·have q1 : ((numB x).toList == [48]) = true := by rw [hx0, numB_zero]; exact lit_zero
      have hsk := hid (c1_skip (N := N) (D := D) (n := n) (i := i) (s := s) (hx.trans hx0))
      obtain ⟨sx, hsx⟩ : ∃ s, numB x = s := ⟨_, rfl⟩
      rw [hsx] at A1 q1
      clear hs hlt hx bx hx0 hsx
      go_wp2_with fail
      refine (A1 _ hG.out.bel).out.mono ?_; rintro e w2 ⟨rfl, rfl⟩
      go_wp2_with fail
      go_roundw
      case rel => exact ⟨s + 1, by go_num, by have := SL.out; omega, hid (by rw [hsk.out]; exact hG.out.mono (by omega) rfl)⟩
      case measure => simp [intOf] <;> (have := SL.out; omega)
     ·have q1 : ((numB x).toList == [48]) = false := ne_lit (l := [48]) (by rw [← numB_zero]; exact numB_ne hx0)
      obtain ⟨hbl, nn, Dm, hnn, hO, hR⟩ := hG.out
      have hcl := c1_le (N := N) (D := D) HND.out (n := n) (i := i) (s := s) (by have := IL.out; omega) (by omega) (i : Int)
      have hcl2 := c1_le (N := N) (D := D) HND.out (n := n) (i := i) (s := s + 1) (by have := IL.out; omega) (by have := SL.out; omega) (i : Int)
      have hgv := gV_le HND.out false n (i : Int)
      have hstep := c1_step N D n i s
      rw [hstep] at hcl2
      rw [hx] at hstep hcl2
      unfold addM at hcl2
      rw [if_pos rfl] at hcl2
      have hp2 : 2 ^ (n - s) ≤ 2 ^ 32 := Nat.pow_le_pow_right (by omega) (by have := HN.out; omega)
      have hpn : 2 ^ n ≤ 2 ^ 32 := Nat.pow_le_pow_right (by omega) HN.out
      have hxp : 0 < x * 2 ^ (n - s) := Nat.mul_pos (by omega) (Nat.pow_pos (by omega))
      have hRP := ReadsI.put hR (i : Int) hxp
      have HRP := hid hRP; have HO := hid hO; have HNN := hid hnn; have HBL := hid hbl; have HST := hid hstep
      obtain ⟨y, hy⟩ : ∃ y, c1 N D n i s (i : Int) = y := ⟨_, rfl⟩
      have HLK : Hid (∀ V, Below wr.heap.size wr V → (Instr.lookup 198 (.map (some B)) (.int .i64 (i : Nat)) false).run Tryz.prog V = .ok (.string (cellB y)) V) := fun V hV => by
       have := look_i (HO.out.kept (row := none) ⟨hV.os, hV.tape, hV.output, hV.size, fun k hk _ => hV.block k hk⟩ (by simp)) hR (wf_int (v := (i : Int)) (by omega) (by omega))
       rw [hy] at this
       exact this
      rw [hy] at HRP hcl hcl2
      have dx := two_pow_digits bx (by omega)
      have dp := two_pow_digits hp2 (by omega)
      have dxp := two_pow_digits (i := 32) (show x * 2 ^ (n - s) ≤ 2 ^ 32 by omega) (by omega)
      have dy := two_pow_digits (i := 32) (show y ≤ 2 ^ 32 by omega) (by omega)
      have ds := two_pow_digits (i := 32) (show y + x * 2 ^ (n - s) ≤ 2 ^ 32 by omega) (by omega)
      have P0 := fun V hV => HPW V (n - s) (by have := HN.out; omega) hV
      have P1 := fun V hV => hid (p_times V x (2 ^ (n - s)) dx dp dxp hV)
      have P2 := fun V hV => hid (p_plus V y (x * 2 ^ (n - s)) dy dxp ds hV)
      have POR := fun V g h => hid (c_Or V g y h)
      have hsz := hid (numB_size_le ds)
      have wsub : IntKind.i64.wrap ((n : Int) - (s : Int)) = ((n - s : Nat) : Int) := by have := HN.out; have := SL.out; rw [IntWalk.i64_in _ ⟨by omega, by omega⟩]; omega
      obtain ⟨sx, hsx⟩ : ∃ t, numB x = t := ⟨_, rfl⟩
      obtain ⟨sp, hsp⟩ : ∃ t, numB (2 ^ (n - s)) = t := ⟨_, rfl⟩
      obtain ⟨sxp, hsxp⟩ : ∃ t, numB (x * 2 ^ (n - s)) = t := ⟨_, rfl⟩
      obtain ⟨sy, hsy⟩ : ∃ t, numB y = t := ⟨_, rfl⟩
      obtain ⟨sz, hszz⟩ : ∃ t, numB (y + x * 2 ^ (n - s)) = t := ⟨_, rfl⟩
      obtain ⟨cy, hcy⟩ : ∃ t, cellB y = t := ⟨_, rfl⟩
      rw [hsx] at A1 q1
      rw [hsp] at P0
      rw [hsx, hsp, hsxp] at P1
      rw [hsy, hsxp, hszz] at P2
      rw [hsy, hcy] at POR
      rw [hcy] at HLK
      rw [hszz] at hsz HRP
      have Z0 : Hid (w1.heap.size ≤ wr.heap.size) := hbl.size
      clear hs hlt hx bx hx0 hsx hcl hcl2 hgv hstep hp2 hpn hxp hRP hbl hnn hO hR hy dx dp dxp dy ds hsp hsxp hsy hszz hcy
      have lk := HLK.out wr (Below.refl _ _)
      have C2 : Blk (wr.alloc (.cells #[.string cy, .string ⟨#[48]⟩] 22)) wr.heap.size #[.string cy, .string ⟨#[48]⟩] 22 := Blk.new wr #[.string cy, .string ⟨#[48]⟩] 22
      have A2 := hid (show Below wr.heap.size wr (wr.alloc (.cells #[.string cy, .string ⟨#[48]⟩] 22)) from (Below.refl _ _).alloc (Nat.le_refl _) _)
      have F2 := hid (bnext HBL.out A2.out)
      go_wp2_with fail
      refine (A1 _ hG.out.bel).out.mono ?_; rintro e w2 ⟨rfl, rfl⟩
      go_wp2_with fail
      refine (POR _ _ C2).out.mono ?_; rintro e w2 ⟨rfl, rfl⟩
      clear lk C2
      go_wp2_with fail
      refine (A1 _ F2.out).out.mono ?_; rintro e w2 ⟨rfl, rfl⟩
      go_wp2_with fail
      refine (P0 _ (LK.out _ F2.out)).out.mono ?_; rintro e w3 ⟨rfl, hb3⟩
      have A3 := hid (bnext A2.out hb3)
      clear hb3
      go_wp2_with fail
      refine (P1 _ (LK.out _ (bnext HBL.out A3.out))).out.mono ?_; rintro e w4 ⟨rfl, hb4⟩
      have A4 := hid (bnext A3.out hb4)
      clear hb4
      go_wp2_with fail
      refine (P2 _ (LK.out _ (bnext HBL.out A4.out))).out.mono ?_; rintro e w5 ⟨rfl, hb5⟩
      have A5 := hid (bnext A4.out hb5)
      clear hb5
      go_wp2_with (at_mapUpdate; refine wpList_mapUpdate_own _ rfl _ _ _ 198 rfl 3 22 (int_keyed Tryz.underlying3) Tryz.underlying198 _ B nn _ rfl (HO.out.kept (row := none) ⟨A5.out.os, A5.out.tape, A5.out.output, A5.out.size, fun k hk _ => A5.out.block k hk⟩ (by simp)) (by have := HNN.out; have := HN.out; have := IL.out; have := SL.out; unfold maxLen; omega) _ _ _ rfl rfl (keyOf_int_mk Tryz.underlying3 (wf_int (v := (i : Int)) (by omega) (by omega))) _ [] (plainElem_string Tryz.underlying22 hsz.out) ?_; intro w6 hown hgrow)
      have OW := hid hown
      have B6 := hid (below_map (bnext HBL.out A5.out) hgrow (by rw [HB.out]; exact Nat.le_refl _))
      clear hown hgrow HLK
      go_roundw
      case rel =>
       refine ⟨s + 1, by go_num, by have := SL.out; omega, hid ⟨B6.out, nn + 1, _, by have := HNN.out; omega, OW.out, ?_⟩⟩
       rw [HST.out]
       exact HRP.out
      case measure => simp [intOf] <;> (have := SL.out; omega)
    ·have q0 : decide ((s : Int) < ((n + 1 : Nat) : Int)) = false := by simp; omega
     have d30 : decide ((s : Int) < (n : Int) + 1) = false := by simp; omega
     have e1 : s = n + 1 := by omega
     subst e1
     clear hs hlt
     have hrow := hid (c1_row N D n i)
     go_wp2_with fail
     go_roundw
     case rel => exact ⟨i + 1, by go_num, by have := IL.out; omega, hid (hG.out.mono (by have := HN.out; omega) hrow.out)⟩
     case measure => simp [intOf] <;> (have := IL.out; omega)
  ·have q0 : decide ((i : Int) < ((n + 1 : Nat) : Int)) = false := by simp; omega
   have di : decide ((i : Int) < (n : Int) + 1) = false := by simp; omega
   have e1 : i = n + 1 := by omega
   subst e1
   clear hi hlt
   obtain ⟨hbl, nn, Dm, h1, h2, h3⟩ := hG.out
   have HBL := hid hbl; have H1 := hid h1; have H2 := hid h2; have H3 := hid h3
   clear hbl h1 h2 h3
   go_wp2_with fail
   go_ret
   refine ⟨⟨B, nn, Dm, rfl, by rw [← HB.out]; exact B1.out.size, by have := H1.out; have := HN.out; omega, H2.out, ?_⟩, bnext B1.out HBL.out⟩
   have e2 : c1 N D n (n + 1) 0 = gV N D false n := funext fun v => c1_end HND.out n v
   rw [← e2]
   exact H3.out
theorem g_law2 {H : Type} (w : World) (a : ByteArray) (n N D : Nat) (ha : a.size ≤ 100000) (he : gPE a = 0) (hn : n ≤ 32) (hN : bN (cW a) = N) (hD : bN (qD a) = D) (hND : N < D) (hL : Lay w) :
 Calls Tryz.prog 182 #[.string a, .int .i64 n, .bool true] w fun e w' => (∃ B nn Dm, e = .returned (.map (some B)) ∧ w.heap.size ≤ B ∧ nn ≤ 3000000 ∧ w'.ownsMap Tryz.prog 3 (plainElem (H := H) Tryz.prog 22) B nn Dm ∧ ReadsI Dm (gV N D true n)) ∧ Below w.heap.size w w' := by
 have HE := hid (g_ends w a n N D ha he hn hN hD hND hL)
 have HAT : Hid (∀ V gt i k, TabR V gt n (ednL N D n) → i ≤ n → k ≤ n → Calls Tryz.prog 244 #[.pointer (some ⟨gt, 0, none⟩), .int .i64 (i : Nat), .int .i64 (k : Nat)] V fun e w' => e = .returned (.string (numB (edn N D i k))) ∧ V = w') := fun V gt i k hT hi hk => by
  have := tb_at V gt n i k (ednL N D n) hT hi hk (by omega)
  unfold ednL at this
  rw [fnL_get hk] at this
  exact this
 have HPW := fun V k (hk : k ≤ 1000) hV => hid (g_power V k hk hV)
 have EB : Hid (∀ i k, i ≤ n → k ≤ n → edn N D i k ≤ 2 ^ 200) := fun i k hi hk => Nat.le_trans (edn_bd hn i k hk) (Nat.pow_le_pow_right (by omega) (by omega))
 have HL := hid hL; have HLL := hid hL.lt; have HN := hid hn; have HND := hid hND
 have wn : IntKind.i64.wrap ((n : Int) + 1) = ((n + 1 : Nat) : Int) := by rw [IntWalk.i64_in _ ⟨by omega, by omega⟩]; omega
 have hmm := @run_makeMap Tryz.prog
 clear ha he hn hN hD hND hL
 go_enter Tryz.func182, Tryz.ntmps182
 go_wp2_with fail
 refine HE.out.mono ?_; rintro e w1 ⟨⟨gt, rfl, hgt, hT⟩, hb1⟩
 have T1 := hid hT; have B1 := hid hb1
 clear hT hb1 HE hgt
 have TK : Hid (∀ V, Below w1.heap.size w1 V → TabR V gt n (ednL N D n)) := fun V hV => T1.out.call hV
 have LK : Hid (∀ V, Below w1.heap.size w1 V → Lay V) := fun V hV => (HL.out.call B1.out).call hV
 have HR0 : Hid (∀ V, Below w1.heap.size w1 V → ∃ g c, n + 1 ≤ c ∧ c ≤ 9223372036854775807 ∧ V.cell? ⟨gt, 0, none⟩ = some (.slice (some ⟨g, 0, none⟩) (n + 1) c)) := fun V hV => by
  obtain ⟨-, g, c, h1, h2, h3, -, -⟩ := TK.out V hV
  exact ⟨g, c, h1, h2, h3⟩
 have G0 : Hid (GlS H w1 (w1.alloc (.map #[] 0)) w1.heap.size 0 (fun _ => 0)) := ⟨(Below.refl _ _).alloc (Nat.le_refl _) _, 0, .map [], Nat.le_refl _, World.ownsMap_made _ _ _ _, ReadsI.nil⟩
 obtain ⟨g, c, hc1, hc2, r0⟩ := HR0.out _ G0.out.bel
 clear T1
 go_wp2_with fail
 obtain ⟨W1, hW1⟩ : ∃ W, w1.alloc (.map #[] 0) = W := ⟨_, rfl⟩
 obtain ⟨B, hB⟩ : ∃ B, w1.heap.size = B := ⟨_, rfl⟩
 have HB := hid hB
 have G1 : Hid (GlS H w1 W1 B 0 (fun _ => 0)) := by rw [← hW1, ← hB]; exact G0.out
 rw [hW1, hB]
 clear hW1 hB G0 r0 hc1 hc2
 go_loopw [22] (fun ii wr => ∃ i : Nat, ii = .int .i64 (i : Nat) ∧ i ≤ n + 1 ∧ Hid (GlS H w1 wr B (i * 64000) (c2 N D n i 0 0 0))) (fun ii wr => n + 1 - (intOf ii).toNat)
 case atStart => exact ⟨0, rfl, Nat.zero_le _, hid (by rw [c2_zero]; exact G1.out)⟩
 case round =>
  obtain ⟨i, rfl, hi, hG⟩ := hrel
  by_cases hlt : i < n + 1
  ·have q0 : decide ((i : Int) < ((n + 1 : Nat) : Int)) = true := by simp; omega
   have di : decide ((i : Int) < (n : Int) + 1) = true := by simp; omega
   have IL := hid hlt
   have f2 : (i : Int) ≤ 100 := by have := HN.out; omega
   clear hi hlt
   go_wp2_with fail
   go_loopw [27] (fun ss wq => ∃ s : Nat, ss = .int .i64 (s : Nat) ∧ s ≤ n + 1 ∧ Hid (GlS H w1 wq B (i * 64000 + s * 1600) (c2 N D n i s 0 0))) (fun ss wq => n + 1 - (intOf ss).toNat)
   case atStart => exact ⟨0, rfl, Nat.zero_le _, hid (hG.out.mono (by omega) rfl)⟩
   case round =>
    clear hG
    obtain ⟨s, rfl, hs, hG⟩ := hrel
    by_cases hlt : s < n + 1
    ·have q0 : decide ((s : Int) < ((n + 1 : Nat) : Int)) = true := by simp; omega
     have d30 : decide ((s : Int) < (n : Int) + 1) = true := by simp; omega
     have SL := hid hlt
     have f3 : (s : Int) ≤ 100 := by have := HN.out; omega
     have A1 := fun V hV => hid (HAT.out V gt i s (TK.out V hV) (by have := IL.out; omega) (by have := SL.out; omega))
     obtain ⟨x, hx⟩ : ∃ x, edn N D i s = x := ⟨_, rfl⟩
     rw [hx] at A1
     have bx : x ≤ 2 ^ 200 := hx ▸ EB.out i s (by have := IL.out; omega) (by have := SL.out; omega)
     by_cases hx0 : x = 0
     ·have q1 : ((numB x).toList == [48]) = true := by rw [hx0, numB_zero]; exact lit_zero
      have hsk := hid (c2_none (N := N) (D := D) (n := n) (i := i) (s := s) (hx.trans hx0))
      obtain ⟨sx, hsx⟩ : ∃ s, numB x = s := ⟨_, rfl⟩
      rw [hsx] at A1 q1
      clear hs hlt hx bx hx0 hsx
      go_wp2_with fail
      refine (A1 _ hG.out.bel).out.mono ?_; rintro e w2 ⟨rfl, rfl⟩
      go_wp2_with fail
      go_roundw
      case rel => exact ⟨s + 1, by go_num, by have := SL.out; omega, hid (by rw [hsk.out]; exact hG.out.mono (by omega) rfl)⟩
      case measure => simp [intOf] <;> (have := SL.out; omega)
     ·have q1 : ((numB x).toList == [48]) = false := ne_lit (l := [48]) (by rw [← numB_zero]; exact numB_ne hx0)
      have HX := hid hx; have BX := hid bx; have HX0 := hid hx0
      obtain ⟨sx, hsx⟩ : ∃ s, numB x = s := ⟨_, rfl⟩
      rw [hsx] at A1 q1
      have HSX := hid hsx
      obtain ⟨g', c', hc1', hc2', r0'⟩ := HR0.out _ hG.out.bel
      clear hs hlt hx bx hx0 hsx
      go_wp2_with fail
      refine (A1 _ hG.out.bel).out.mono ?_; rintro e w2 ⟨rfl, rfl⟩
      go_wp2_with fail
      clear q1
      go_loopw [59] (fun kk wq => ∃ k : Nat, kk = .int .i64 (k : Nat) ∧ k ≤ n + 1 ∧ Hid (GlS H w1 wq B (i * 64000 + s * 1600 + k * 40) (c2 N D n i s k 0))) (fun kk wq => n + 1 - (intOf kk).toNat)
      case atStart => exact ⟨0, rfl, Nat.zero_le _, hid (hG.out.mono (by omega) rfl)⟩
      case round =>
       clear r0' hG
       obtain ⟨k, rfl, hk, hG⟩ := hrel
       by_cases hlt : k < n + 1
       ·have q0 : decide ((k : Int) < ((n + 1 : Nat) : Int)) = true := by simp; omega
        have dk : decide ((k : Int) < (n : Int) + 1) = true := by simp; omega
        have KL := hid hlt
        have f4 : (k : Int) ≤ 100 := by have := HN.out; omega
        clear hk hlt
        go_wp2_with fail
        go_loopw [12] (fun uu wq => ∃ u : Nat, uu = .int .i64 (u : Nat) ∧ s + u ≤ n + 1 ∧ Hid (GlS H w1 wq B (i * 64000 + s * 1600 + k * 40 + u) (c2 N D n i s k u))) (fun uu wq => n + 1 - (intOf uu).toNat)
        case atStart => exact ⟨0, rfl, by have := SL.out; omega, hid (hG.out.mono (by omega) rfl)⟩
        case round =>
         clear hG
         obtain ⟨u, rfl, hu, hG⟩ := hrel
         by_cases hlt : s + u ≤ n
         ·have q2 : decide ((s : Int) + (u : Int) ≤ (n : Int)) = true := by simp; omega
          have UL := hid hlt
          have f5 : (u : Int) ≤ 100 := by have := HN.out; omega
          have A2 := fun V hV => hid (HAT.out V gt k u (TK.out V hV) (by have := KL.out; omega) (by have := UL.out; omega))
          obtain ⟨y, hy⟩ : ∃ y, edn N D k u = y := ⟨_, rfl⟩
          rw [hy] at A2
          have by' : y ≤ 2 ^ 200 := hy ▸ EB.out k u (by have := KL.out; omega) (by omega)
          by_cases hy0 : y = 0
          ·have q1 : ((numB y).toList == [48]) = true := by rw [hy0, numB_zero]; exact lit_zero
           have hsk := hid (c2_skip (N := N) (D := D) (n := n) (i := i) (s := s) (k := k) (u := u) (hy.trans hy0))
           obtain ⟨sy, hsy⟩ : ∃ s, numB y = s := ⟨_, rfl⟩
           rw [hsy] at A2 q1
           clear hu hlt hy by' hy0 hsy
           go_wp2_with fail
           refine (A2 _ hG.out.bel).out.mono ?_; rintro e w2 ⟨rfl, rfl⟩
           go_wp2_with fail
           go_roundw
           case rel => exact ⟨u + 1, by go_num, by have := UL.out; omega, hid (by rw [hsk.out]; exact hG.out.mono (by omega) rfl)⟩
           case measure => simp [intOf] <;> (have := UL.out; omega)
          ·have q1 : ((numB y).toList == [48]) = false := ne_lit (l := [48]) (by rw [← numB_zero]; exact numB_ne hy0)
           obtain ⟨hbl, nn, Dm, hnn, hO, hR⟩ := hG.out
           obtain ⟨v, hv⟩ : ∃ v : Int, (i : Int) - (k : Int) = v := ⟨_, rfl⟩
           have hvb : -1000 ≤ v ∧ v ≤ 1000 := ⟨by omega, by have := IL.out; have := HN.out; omega⟩
           have hcl := c2_le (N := N) (D := D) HND.out (n := n) (i := i) (s := s) (k := k) (u := u) (by have := IL.out; omega) (by omega) (by have := KL.out; omega) (by omega) v
           have hcl2 := c2_le (N := N) (D := D) HND.out (n := n) (i := i) (s := s) (k := k) (u := u + 1) (by have := IL.out; omega) (by omega) (by have := KL.out; omega) (by omega) v
           have hgv := gV_le HND.out true n v
           have hstep := c2_u N D n i s k u
           rw [hstep] at hcl2
           rw [HX.out, hy, hv] at hstep hcl2
           unfold addM at hcl2
           rw [if_pos rfl] at hcl2
           obtain ⟨m, hm⟩ : ∃ m, n - s - u = m := ⟨_, rfl⟩
           obtain ⟨ns, hns⟩ : ∃ m, n - s = m := ⟨_, rfl⟩
           have hm32 : m ≤ 32 := by have := HN.out; omega
           have wsub : IntKind.i64.wrap ((n : Int) - (s : Int)) = (ns : Int) := by rw [IntWalk.i64_in _ ⟨by omega, by omega⟩]; omega
           have wsub2 : IntKind.i64.wrap ((ns : Int) - (u : Int)) = (m : Int) := by rw [IntWalk.i64_in _ ⟨by omega, by omega⟩]; omega
           have wik : IntKind.i64.wrap ((i : Int) - (k : Int)) = v := by rw [IntWalk.i64_in _ ⟨by omega, by omega⟩]; exact hv
           rw [hm] at hstep hcl2
           have hp2 : 2 ^ m ≤ 2 ^ 32 := Nat.pow_le_pow_right (by omega) hm32
           have hpn : 2 ^ n ≤ 2 ^ 32 := Nat.pow_le_pow_right (by omega) HN.out
           obtain ⟨xy, hxy⟩ : ∃ z, x * y = z := ⟨_, rfl⟩
           have hxy0 : 0 < xy := by rw [← hxy]; exact Nat.mul_pos (by have := HX0.out; omega) (by omega)
           have hxp : 0 < xy * 2 ^ m := Nat.mul_pos hxy0 (Nat.pow_pos (by omega))
           have dxy' := nd_mul_pw BX.out by' (by omega)
           rw [hxy] at dxy'
           have dx := two_pow_digits BX.out (by omega)
           have dyy := two_pow_digits by' (by omega)
           have PXY := fun V hV => hid (p_times V x y dx dyy (by rw [hxy]; exact dxy') hV)
           rw [hxy] at hstep hcl2 PXY
           have hRP := ReadsI.put hR v hxp
           have HRP := hid hRP; have HO := hid hO; have HNN := hid hnn; have HBL := hid hbl; have HST := hid hstep
           obtain ⟨z, hz⟩ : ∃ y, c2 N D n i s k u v = y := ⟨_, rfl⟩
           have HLK : Hid (∀ V, Below wr.heap.size wr V → (Instr.lookup 198 (.map (some B)) (.int .i64 v) false).run Tryz.prog V = .ok (.string (cellB z)) V) := fun V hV => by
            have := look_i (HO.out.kept (row := none) ⟨hV.os, hV.tape, hV.output, hV.size, fun k hk _ => hV.block k hk⟩ (by simp)) hR (wf_int (v := v) (by omega) (by omega))
            rw [hz] at this
            exact this
           rw [hz] at HRP hcl hcl2
           have dp := two_pow_digits hp2 (by omega)
           have dxp := two_pow_digits (i := 32) (show xy * 2 ^ m ≤ 2 ^ 32 by omega) (by omega)
           have dz := two_pow_digits (i := 32) (show z ≤ 2 ^ 32 by omega) (by omega)
           have ds := two_pow_digits (i := 32) (show z + xy * 2 ^ m ≤ 2 ^ 32 by omega) (by omega)
           have P0 := fun V hV => HPW V m (by omega) hV
           have P1 := fun V hV => hid (p_times V xy (2 ^ m) dxy' dp dxp hV)
           have P2 := fun V hV => hid (p_plus V z (xy * 2 ^ m) dz dxp ds hV)
           have POR := fun V g h => hid (c_Or V g z h)
           have hsz := hid (numB_size_le ds)
           have hwf := hid (keyOf_int_mk Tryz.underlying3 (wf_int (v := v) (by omega) (by omega)))
           obtain ⟨sy, hsy⟩ : ∃ t, numB y = t := ⟨_, rfl⟩
           obtain ⟨sxy, hsxy⟩ : ∃ t, numB xy = t := ⟨_, rfl⟩
           obtain ⟨sp, hsp⟩ : ∃ t, numB (2 ^ m) = t := ⟨_, rfl⟩
           obtain ⟨sxp, hsxp⟩ : ∃ t, numB (xy * 2 ^ m) = t := ⟨_, rfl⟩
           obtain ⟨sz, hsz1⟩ : ∃ t, numB z = t := ⟨_, rfl⟩
           obtain ⟨st, hst⟩ : ∃ t, numB (z + xy * 2 ^ m) = t := ⟨_, rfl⟩
           obtain ⟨cz, hcz⟩ : ∃ t, cellB z = t := ⟨_, rfl⟩
           rw [hsy] at A2 q1
           rw [HSX.out, hsy, hsxy] at PXY
           rw [hsp] at P0
           rw [hsxy, hsp, hsxp] at P1
           rw [hsz1, hsxp, hst] at P2
           rw [hsz1, hcz] at POR
           rw [hcz] at HLK
           rw [hst] at hsz HRP
           clear hu hlt hy by' hy0 hbl hnn hO hR hv hvb hcl hcl2 hgv hstep hm hns hm32 hp2 hpn hxy hxy0 hxp dxy' dx dyy hRP hz dp dxp dz ds hsy hsxy hsp hsxp hsz1 hst hcz
           have lk := HLK.out wr (Below.refl _ _)
           have C2 : Blk (wr.alloc (.cells #[.string cz, .string ⟨#[48]⟩] 22)) wr.heap.size #[.string cz, .string ⟨#[48]⟩] 22 := Blk.new wr #[.string cz, .string ⟨#[48]⟩] 22
           have F2 := hid (show Below wr.heap.size wr (wr.alloc (.cells #[.string cz, .string ⟨#[48]⟩] 22)) from (Below.refl _ _).alloc (Nat.le_refl _) _)
           have E2 := hid (bnext HBL.out F2.out)
           go_wp2_with fail
           refine (A2 _ hG.out.bel).out.mono ?_; rintro e w2 ⟨rfl, rfl⟩
           go_wp2_with fail
           refine (POR _ _ C2).out.mono ?_; rintro e w2 ⟨rfl, rfl⟩
           clear lk C2
           go_wp2_with fail
           refine (A1 _ E2.out).out.mono ?_; rintro e w2 ⟨rfl, rfl⟩
           go_wp2_with fail
           refine (A2 _ E2.out).out.mono ?_; rintro e w2 ⟨rfl, rfl⟩
           go_wp2_with fail
           refine (PXY _ (LK.out _ E2.out)).out.mono ?_; rintro e w3 ⟨rfl, hb3⟩
           have F3 := hid (bnext F2.out hb3)
           clear hb3
           go_wp2_with fail
           refine (P0 _ (LK.out _ (bnext HBL.out F3.out))).out.mono ?_; rintro e w4 ⟨rfl, hb4⟩
           have F4 := hid (bnext F3.out hb4)
           clear hb4
           go_wp2_with fail
           refine (P1 _ (LK.out _ (bnext HBL.out F4.out))).out.mono ?_; rintro e w5 ⟨rfl, hb5⟩
           have F5 := hid (bnext F4.out hb5)
           clear hb5
           go_wp2_with fail
           refine (P2 _ (LK.out _ (bnext HBL.out F5.out))).out.mono ?_; rintro e w6 ⟨rfl, hb6⟩
           have F6 := hid (bnext F5.out hb6)
           clear hb6
           go_wp2_with (at_mapUpdate; refine wpList_mapUpdate_own _ rfl _ _ _ 198 rfl 3 22 (int_keyed Tryz.underlying3) Tryz.underlying198 _ B nn _ rfl (HO.out.kept (row := none) ⟨F6.out.os, F6.out.tape, F6.out.output, F6.out.size, fun k hk _ => F6.out.block k hk⟩ (by simp)) (by have := HNN.out; have := HN.out; have := IL.out; have := SL.out; have := KL.out; have := UL.out; unfold maxLen; omega) _ _ _ rfl rfl hwf.out _ [] (plainElem_string Tryz.underlying22 hsz.out) ?_; intro w7 hown hgrow)
           have OW := hid hown
           have B7 := hid (below_map (bnext HBL.out F6.out) hgrow (by rw [HB.out]; exact Nat.le_refl _))
           clear hown hgrow HLK
           go_roundw
           case rel =>
            refine ⟨u + 1, by go_num, by have := UL.out; omega, hid ⟨B7.out, nn + 1, _, by have := HNN.out; omega, OW.out, ?_⟩⟩
            rw [HST.out]
            exact HRP.out
           case measure => simp [intOf] <;> (have := UL.out; omega)
         ·have q2 : decide ((s : Int) + (u : Int) ≤ (n : Int)) = false := by simp; omega
          have e1 : u = n - s + 1 := by have := SL.out; omega
          have f5 : (u : Int) ≤ 100 := by have := HN.out; omega
          subst e1
          clear hu hlt
          have hck := hid (c2_k N D n i s k)
          go_wp2_with fail
          go_roundw
          case rel => exact ⟨k + 1, by go_num, by have := KL.out; omega, hid (hG.out.mono (by have := HN.out; omega) hck.out)⟩
          case measure => simp [intOf] <;> (have := KL.out; omega)
       ·have q0 : decide ((k : Int) < ((n + 1 : Nat) : Int)) = false := by simp; omega
        have dk : decide ((k : Int) < (n : Int) + 1) = false := by simp; omega
        have e1 : k = n + 1 := by omega
        subst e1
        clear hk hlt
        have hcs := hid (c2_s N D n i s)
        go_wp2_with fail
        go_roundw
        case rel => exact ⟨s + 1, by go_num, by have := SL.out; omega, hid (hG.out.mono (by have := HN.out; omega) hcs.out)⟩
        case measure => simp [intOf] <;> (have := SL.out; omega)
    ·have q0 : decide ((s : Int) < ((n + 1 : Nat) : Int)) = false := by simp; omega
     have d30 : decide ((s : Int) < (n : Int) + 1) = false := by simp; omega
     have e1 : s = n + 1 := by omega
     subst e1
     clear hs hlt
     have hrow := hid (c2_i N D n i)
     go_wp2_with fail
     go_roundw
     case rel => exact ⟨i + 1, by go_num, by have := IL.out; omega, hid (hG.out.mono (by have := HN.out; omega) hrow.out)⟩
     case measure => simp [intOf] <;> (have := IL.out; omega)
  ·have q0 : decide ((i : Int) < ((n + 1 : Nat) : Int)) = false := by simp; omega
   have di : decide ((i : Int) < (n : Int) + 1) = false := by simp; omega
   have e1 : i = n + 1 := by omega
   subst e1
   clear hi hlt
   obtain ⟨hbl, nn, Dm, h1, h2, h3⟩ := hG.out
   have HBL := hid hbl; have H1 := hid h1; have H2 := hid h2; have H3 := hid h3
   clear hbl h1 h2 h3
   go_wp2_with fail
   go_ret
   refine ⟨⟨B, nn, Dm, rfl, by rw [← HB.out]; exact B1.out.size, by have := H1.out; have := HN.out; omega, H2.out, ?_⟩, bnext B1.out HBL.out⟩
   have e2 : c2 N D n (n + 1) 0 0 0 = gV N D true n := funext fun v => c2_end HND.out n v
   rw [← e2]
   exact H3.out
open Go.Sort
open Go.Shelf
def prL (N D : Nat) (two : Bool) (n : Nat) (vs : List Int) : List (ByteArray × ByteArray) := vs.map fun v => (zB v, shB (gV N D two n v) (2 ^ n))
theorem prL_snoc (N D : Nat) (two : Bool) (n : Nat) (vs : List Int) (v : Int) : prL N D two n (vs ++ [v]) = prL N D two n vs ++ [(zB v, shB (gV N D two n v) (2 ^ n))] := by simp [prL]
theorem seen_len {n : Nat} {vs : List Int} (hn : vs.Nodup) (hb : ∀ v ∈ vs, -(n : Int) ≤ v ∧ v ≤ n) : vs.length ≤ 2 * n + 1 := by
 have h := seen_sum (fun _ => 1) n vs hn hb
 have h2 : sumN (fun j => if ((j : Int) - n) ∈ vs then 1 else 0) (2 * n + 1) ≤ sumN (fun _ => 1) (2 * n + 1) := sumN_le fun j _ => by split <;> omega
 have h3 : ∀ m, sumN (fun _ => 1) m = m := fun m => by
  induction m with
  | zero => rfl
  | succ m ih => rw [sumN, ih]
 have h4 : ∀ l : List Int, (l.map fun _ => 1).sum = l.length := fun l => by
  induction l with
  | nil => rfl
  | cons a r ih => rw [List.map_cons, List.sum_cons, ih, List.length_cons]; omega
 rw [h3] at h2
 rw [h4] at h
 omega
theorem g_listed_ok {H : Type} (w : World) (a : ByteArray) (n N D : Nat) (two : Bool) (ha : a.size ≤ 100000) (he : gPE a = 0) (hn : n ≤ 32) (hN : bN (cW a) = N) (hD : bN (qD a) = D) (hND : N < D) (hL : Lay w) :
 Calls Tryz.prog 128 #[.string a, .int .i64 n, .bool two] w fun e w' => (∃ v, e = .returned (.tuple #[v, .int .i64 0]) ∧ MRow w' v (sortM (glP (gV N D two n) (2 ^ n) n (gL N D two n)))) ∧ Below w.heap.size w w' := by
 have HA := hid (g_ratio w a ha hL)
 rw [if_pos he, if_pos he, he] at HA
 have HLAW : ∀ V, Lay V → Hid (Calls Tryz.prog 182 #[.string a, .int .i64 n, .bool two] V fun e w' => (∃ B nn Dm, e = .returned (.map (some B)) ∧ V.heap.size ≤ B ∧ nn ≤ 3000000 ∧ w'.ownsMap Tryz.prog 3 (plainElem (H := H) Tryz.prog 22) B nn Dm ∧ ReadsI Dm (gV N D two n)) ∧ Below V.heap.size V w') := fun V hV => by
  cases two
  ·exact g_law1 V a n N D ha he hn hN hD hND hV
  ·exact g_law2 V a n N D ha he hn hN hD hND hV
 have HPW := fun V hV => hid (g_power V n (by omega) hV)
 have HSL : Hid (∀ vs left, Seen (gV N D two n) n left vs → (vs.map (gV N D two n)).sum ≤ 2 ^ n) := fun vs left h => h.sum_le hND
 have HSA : Hid (∀ vs left, Seen (gV N D two n) n left vs → (∀ v, left v = false) → 2 ^ n - (vs.map (gV N D two n)).sum = gL N D two n) := fun vs left h hl => h.sum_all hND hl
 have HSP : Hid (∀ vs left, Seen (gV N D two n) n left vs → (∀ v, left v = false) → ∀ r, ((prL N D two n vs ++ if r = 0 then [] else [(lateB, shB r (2 ^ n))]).map keyL).Nodup ∧ sortM (prL N D two n vs ++ if r = 0 then [] else [(lateB, shB r (2 ^ n))]) = sortM (glP (gV N D two n) (2 ^ n) n r)) := fun vs left h hl r => h.pairs hND hl
 have HVS : Hid (∀ vs left, Seen (gV N D two n) n left vs → vs.length ≤ 100) := fun vs left h => by
  have h1 := seen_len h.nd fun v hv => by
   have h1 := ((h.mem v).1 hv).1
   rcases Int.lt_or_le v (-(n : Int)) with h2 | h2
   ·exact absurd (gV_out hND (.inl h2)) h1
   ·rcases Int.lt_or_le (n : Int) v with h3 | h3
    ·exact absurd (gV_out hND (.inr h3)) h1
    ·exact ⟨h2, h3⟩
  omega
 have HOUT : Hid (∀ v, gV N D two n v ≠ 0 → -100 ≤ v ∧ v ≤ 100) := fun v h1 => by
  rcases Int.lt_or_le v (-(n : Int)) with h2 | h2
  ·exact absurd (gV_out hND (.inl h2)) h1
  ·rcases Int.lt_or_le (n : Int) v with h3 | h3
   ·exact absurd (gV_out hND (.inr h3)) h1
   ·omega
 have HGV : Hid (∀ v, gV N D two n v ≤ 2 ^ n) := fun v => gV_le hND two n v
 have hpn : 2 ^ n ≤ 2 ^ 32 := Nat.pow_le_pow_right (by omega) hn
 have dT := two_pow_digits hpn (by omega)
 have hT0 : 2 ^ n ≠ 0 := Nat.ne_of_gt (Nat.pow_pos (by omega))
 have HMK : ∀ x, x ≤ 2 ^ n → ∀ V, Lay V → Hid (Calls Tryz.prog 171 #[.string (numB x), .string (numB (2 ^ n))] V fun e w' => e = .returned (.tuple #[.string (shB x (2 ^ n)), .int .i64 (outE (qmk false x (2 ^ n)))]) ∧ Below V.heap.size V w') := fun x hx V hV => pk_make V x (2 ^ n) (two_pow_digits (i := 32) (by omega) (by omega)) dT hT0 hV
 have HSB : ∀ x y, y ≤ x → x ≤ 2 ^ n → ∀ V, Lay V → Hid (Calls Tryz.prog 170 #[.string (numB x), .string (numB y)] V fun e w' => e = .returned (.tuple #[.string (numB (x - y)), .int .i64 0]) ∧ Below V.heap.size V w') := fun x y hy hx V hV => p_sub V x y (two_pow_digits (i := 32) (by omega) (by omega)) (two_pow_digits (i := 32) (by omega) (by omega)) hy hV
 have HMK' := hid HMK; have HSB' := hid HSB
 obtain ⟨cg, hcg⟩ : ∃ c, gV N D two n = c := ⟨_, rfl⟩
 obtain ⟨gl, hgl⟩ : ∃ c, gL N D two n = c := ⟨_, rfl⟩
 obtain ⟨pr, hpr⟩ : ∃ c, prL N D two n = c := ⟨_, rfl⟩
 have HPR : Hid (∀ vs v, pr (vs ++ [v]) = pr vs ++ [(zB v, shB (cg v) (2 ^ n))]) := fun vs v => by rw [← hpr, ← hcg]; exact prL_snoc N D two n vs v
 have HPL : Hid (∀ vs, (pr vs).length = vs.length) := fun vs => by rw [← hpr]; unfold prL; rw [List.length_map]
 have HP0 : Hid (pr [] = []) := by show pr [] = []; rw [← hpr]; rfl
 rw [hcg] at HSL HSA HSP HVS HOUT HGV
 rw [hpr] at HSP
 rw [hgl] at HSA
 simp only [hcg] at HLAW
 rw [hcg, hgl]
 obtain ⟨T, hT⟩ : ∃ T, 2 ^ n = T := ⟨_, rfl⟩
 obtain ⟨sT, hsT⟩ : ∃ s, numB T = s := ⟨_, rfl⟩
 rw [hT] at HPW HSL HSA HSP HGV HMK' HSB' HPR hT0 ⊢
 rw [hsT] at HPW
 simp only [hsT] at HMK'
 have HST := hid hsT; have HT0 := hid hT0
 have HLy := hid hL; have HN := hid hn
 have q0 : decide ((n : Int) < 0) = false := by simp
 have q1 : decide ((32 : Int) < (n : Int)) = false := by simp; omega
 obtain ⟨i0, hi, hz0, hz1, hz2⟩ := info_parts info_mass
 clear ha he hn hN hD hND hL hcg hgl hpr hT hsT hpn dT hT0 HMK HSB
 go_enter Tryz.func128, Tryz.ntmps128
 go_wp2_with fail
 refine HA.out.mono ?_; rintro e w1 ⟨rfl, hb1⟩
 have B1 := hid hb1; clear hb1 HA
 go_wp2_with fail
 refine (HPW _ (HLy.out.call B1.out)).out.mono ?_; rintro e w2 ⟨rfl, hb2⟩
 have B2 := hid (bnext B1.out hb2); clear hb2
 go_wp2_with fail
 refine (HLAW _ (HLy.out.call B2.out)).out.mono ?_; rintro e w3 ⟨⟨B, nn, Dm, rfl, hBs, hnn, hown, hR⟩, hb3⟩
 have B3 := hid (bnext B2.out hb3); have HR := hid hR; have HBS := hid hBs
 clear hb3 hBs hnn hR HLAW
 go_wp2_with (first | (at_range; refine wpList_range_own _ rfl _ 198 rfl 3 22 (int_keyed Tryz.underlying3) Tryz.underlying198 _ B nn Dm rfl hown ?_; intro w4 hrg0 hg0 hs0) | go_in)
 go_frame
 have B4 : Hid (Below w.heap.size w w4) := B3.out.trans ⟨hg0.os, hg0.tape, hg0.output, hg0.size, fun k hk => hg0.block k (by have := B3.out.size; omega) (by simp)⟩
 obtain ⟨r, hr⟩ : ∃ r, w3.heap.size = r := ⟨_, rfl⟩
 rw [hr] at hrg0 ⊢
 have Hr : Hid (w.heap.size ≤ r ∧ r < w4.heap.size ∧ B < w4.heap.size) := ⟨by rw [← hr]; exact B3.out.size, hrg0.lt, hrg0.owns.lt⟩
 have S0 : Hid (Seen cg n (fun v => Maps.has Dm (.int .i64 v)) []) := Seen.start fun v hv => by rw [HR.out.has]; simpa using hv
 have RG := hid hrg0
 have HB0 : Hid (w.heap.size ≤ B) := Nat.le_trans B2.out.size HBS.out
 clear hrg0 hg0 hs0 hown hr HBS
 go_loopw [11, 12] (fun s11 s12 wr => ∃ (left : Lit → Bool) (cnt : Nat) (vs : List Int), Hid (wr.ranges Tryz.prog 3 (plainElem Tryz.prog 22) B r nn Dm left cnt) ∧ Hid (Seen cg n (fun v => left (.int .i64 v)) vs) ∧ s12 = .string (numB (T - (vs.map cg).sum)) ∧ Hid (wr.ownsRow w4.heap.size 39 2 s11 vs.length (massC (pr vs))) ∧ Hid (w4.heap.size ≤ wr.heap.size) ∧ Hid (Below w.heap.size w wr)) (fun s11 s12 wr => wr.rangeLeft B r)
 case atStart => exact ⟨_, _, [], RG, S0, by simp [HST.out], hid (by rw [HP0.out]; exact ⟨rfl, .inl ⟨rfl, rfl⟩⟩), hid (Nat.le_refl _), B4⟩
 case round =>
  clear RG S0 B4
  obtain ⟨left, cnt, vs, hrg, hS, rfl, hO, hW, hBl⟩ := hrel
  obtain ⟨ar, cr, rfl⟩ := owns_ex hO.out
  go_wp2_with (first
   | (at_next; refine wpList_next_ranges_is _ rfl _ rfl 3 22 .i64 (int_keyed Tryz.underlying3) Tryz.underlying3 Tryz.underlying22 B r nn _ _ _ rfl hrg.out ?_ ?_)
   | go_in)
  ·intro _ hl0
   have hl1 : ∀ v, (fun v => left (.int .i64 v)) v = false := fun v => hl0 _
   have hrest := HSA.out vs _ hS.out hl1
   obtain ⟨hnd, hsort⟩ := HSP.out vs _ hS.out hl1 gl
   have hvl := HVS.out vs _ hS.out
   have hgT : gl ≤ T := by omega
   rw [hrest]
   have HND := hid hnd; have HSO := hid hsort; have HVL := hid hvl
   have P1 := fun V hV => HMK'.out gl hgT V hV
   obtain ⟨L, hL⟩ : ∃ L, pr vs = L := ⟨_, rfl⟩
   have hLl := HPL.out vs
   rw [hL] at hO HND HSO hLl
   rw [← hLl] at hO hvl ⊢
   have HGT := hid hgT
   have hpos : 0 < (L ++ if gl = 0 then [] else [(lateB, shB gl T)]).length := by
    rw [List.length_append]
    split
    ·rename_i h0
     have : vs ≠ [] := fun e => by subst e; simp at hrest; have := HT0.out; omega
     have := List.length_pos_iff.2 this
     simp; omega
    ·simp
   have HPOS := hid hpos
   clear hl0 hl1 hrest hnd hsort hS hrg hgT hL hLl hpos HVL
   obtain ⟨sg, hsg⟩ : ∃ s, numB gl = s := ⟨_, rfl⟩
   rw [hsg] at P1 ⊢
   have HSG := hid hsg
   clear hsg
   obtain ⟨tb0, htb⟩ : ∃ b, (sg.toList == [48]) = b := ⟨_, rfl⟩
   go_upto_if 67 with fail
   have HTB := hid htb
   clear htb
   go_cut [11] (fun s11 wx => ∃ k, k = (L ++ if gl = 0 then [] else [(lateB, shB gl T)]).length ∧ wx.ownsRow w4.heap.size 39 2 s11 k (massC (L ++ if gl = 0 then [] else [(lateB, shB gl T)])) ∧ w4.heap.size ≤ wx.heap.size ∧ Below w.heap.size w wx)
   case first =>
    by_cases h0 : gl = 0
    ·have e1 : L ++ (if gl = 0 then [] else [(lateB, shB gl T)]) = L := by rw [if_pos h0, List.append_nil]
     have q3 : (sg.toList == [48]) = true := by rw [← HSG.out, h0, numB_zero]; exact lit_zero
     obtain rfl : true = tb0 := by rw [← HTB.out]; exact q3.symm
     have HE1 := hid e1
     clear h0 e1 q3
     go_wp2_with fail
     go_meet
     exact ⟨_, rfl, by rw [HE1.out]; exact hO.out, hW.out, hBl.out⟩
    ·have e1 : L ++ (if gl = 0 then [] else [(lateB, shB gl T)]) = L ++ [(lateB, shB gl T)] := by rw [if_neg h0]
     have q3 : (sg.toList == [48]) = false := by rw [← HSG.out]; exact ne_lit (l := [48]) (by rw [← numB_zero]; exact numB_ne h0)
     obtain rfl : false = tb0 := by rw [← HTB.out]; exact q3.symm
     have HE1 := hid e1
     obtain ⟨sh, hsh⟩ : ∃ s, shB gl T = s := ⟨_, rfl⟩
     rw [hsh] at P1
     have HSH := hid hsh
     clear hsh h0 e1 q3
     go_wp2_with fail
     refine (HPW _ (HLy.out.call hBl.out)).out.mono ?_; rintro e w5 ⟨rfl, hb5⟩
     have B5 := hid (bnext hBl.out hb5); have O5 := hid (owns_call hO.out hb5); have W5 := hid (Nat.le_trans hW.out hb5.size)
     clear hb5
     go_wp2_with fail
     refine (P1 _ (HLy.out.call B5.out)).out.mono ?_; rintro e w6 ⟨rfl, hb6⟩
     have B6 := hid (bnext B5.out hb6); have O6 := hid (owns_call O5.out hb6); have W6 := hid (Nat.le_trans W5.out hb6.size)
     clear hb6
     have hw6 := W6.out
     obtain ⟨hr0, hr1, hr2⟩ := Hr.out
     go_wp2_with (at_builtin; refine wpList_append_own _ rfl _ _ 26 rfl w4.heap.size 39 i0 (.agg #[.string ⟨#[]⟩, .string ⟨#[]⟩]) 2 32 Tryz.underlying26 hi hz0 hz1 hz2 rfl (by decide) _ L.length _ rfl (O6.out.alloc _) ⟨w6.heap.size, 0, none⟩ 1 1 [.string ⟨#[108, 97, 116, 101]⟩, .string sh] rfl rfl (cell_two_new w6 (.string ⟨#[108, 97, 116, 101]⟩) (.string sh) 39) (by simp [Value.oneCell']) (by unfold maxLen; omega) (by omega) (by simp; omega) ?_; intro v' w7 hown7 hgrow7 _)
     have O7 := hid hown7
     have B7 : Hid (Below w.heap.size w w7) := B6.out.trans ((Below.refl _ _).alloc (Nat.le_refl _) _ |>.mono (by have := B6.out.size; omega) |>.trans ⟨hgrow7.os, hgrow7.tape, hgrow7.output, hgrow7.size, fun k hk => hgrow7.block k (by have := B6.out.size; simp; omega) (fun e => by have := (O6.out.lt k e.symm).1; omega)⟩)
     have W7 := hid (show w4.heap.size ≤ w7.heap.size by have := hgrow7.size; simp at this; omega)
     clear hown7 hgrow7 hw6 hr0 hr1 hr2
     go_wp2_with fail
     go_meet
     refine ⟨_, rfl, ?_, W7.out, B7.out⟩
     rw [HE1.out, List.length_append, massC_append, HSH.out]
     exact O7.out
   case rest =>
    obtain ⟨k, rfl, hOx, hWx, hBx⟩ := hcut
    have HB := hid hBx; have HW := hid hWx
    obtain ⟨d, hd⟩ : ∃ d, (L ++ if gl = 0 then [] else [(lateB, shB gl T)]) = d := ⟨_, rfl⟩
    rw [hd] at hOx HND HSO HPOS
    have hdl : d.length ≤ 1000 := by rw [← hd, List.length_append]; split <;> simp <;> omega
    rcases hOx.2 with ⟨_, h0⟩ | ⟨g, cap, cur, rfl, hgb, hg, h1, h2, h3, h4⟩
    ·have := HPOS.out; omega
    ·have hSM := s_SortM 183 g cap w4.heap.size d.toArray wc cur hgb hg (by simpa using h1) h2 h3 (by simpa [massC_length] using h4) (by simpa using hdl) (by simpa using HND.out) (enters_of Tryz.func183 (by kernel_rfl) rfl) (fun x y W => g_order x y W)
     simp only [List.size_toArray] at hSM
     have HSM := hid hSM
     clear hd hdl hSM hOx hWx hBx h1 h2 h3 h4 hg
     go_wp2_with fail
     refine HSM.out.mono ?_; rintro e w8 ⟨rfl, ho8, hb8⟩
     have B8 : Hid (Below w.heap.size w w8) := HB.out.trans (hb8.mono (by have := Hr.out.1; have := Hr.out.2.1; omega))
     have M8 := hid (MRow.of_owns ho8)
     clear ho8 hb8
     go_wp2_with fail
     go_ret2
     refine ⟨⟨_, rfl, ?_⟩, B8.out⟩
     rw [← HSO.out]
     exact M8.out
  ·intro x c w5 cnt1 hwx hwc hlx hat hrg1 hlt hg1 hs1 hen
   have hxc : cg x ≠ 0 := by
    have h1 := has_true_of_atKey hat
    rw [HR.out.has] at h1
    simpa using h1
   have hcx : c = numB (cg x) := by
    have h1 := (HR.out.look x hxc (.lit (.string []))).symm.trans (hat (.lit (.string [])))
    simp only [DataW.lit.injEq, Lit.string.injEq] at h1
    exact (ba_ext h1).symm
   subst hcx
   have hS1 := Seen.step (left' := fun v => (fun z => left z && !z.sameKey (.int .i64 x)) (.int .i64 v)) hS.out (x := x) hlx hxc (fun v => by simp only [sameKey_int])
   have hsum := HSL.out _ _ hS1
   have hsum1 : ((vs ++ [x]).map cg).sum = (vs.map cg).sum + cg x := by simp
   rw [hsum1] at hsum
   have hvl := HVS.out _ _ hS1
   rw [List.length_append, List.length_singleton] at hvl
   have hxb := HOUT.out x hxc
   have P1 := fun V hV => HMK'.out (cg x) (HGV.out x) V hV
   have P2 := fun V hV => HSB'.out (T - (vs.map cg).sum) (cg x) (by omega) (by omega) V hV
   have PI := fun V hV => hid (s_ItoaZ V x (by omega) (by omega) hV)
   have HNX : Hid (T - (vs.map cg).sum - cg x = T - ((vs ++ [x]).map cg).sum) := by show _ = _; rw [hsum1]; omega
   have hb5 : Below w.heap.size w w5 := hBl.out.trans ⟨hg1.os, hg1.tape, hg1.output, hg1.size, fun k hk => hg1.block k (by have := hBl.out.size; omega) (fun e => by have := Hr.out.1; injection e with e; omega)⟩
   have hO5 : w5.ownsRow w4.heap.size 39 2 (.slice ar vs.length cr) vs.length (massC (pr vs)) := hO.out.kept hg1 (.inr fun e => by have := (hO.out.lt r e).1; have := Hr.out.2.1; omega)
   have B5 := hid hb5; have O5 := hid hO5; have RG1 := hid hrg1; have HS1 := hid hS1; have HLT := hid hlt; have W5 := hid (show w4.heap.size ≤ w5.heap.size by have := hW.out; omega)
   have HRG := hid hrg.out
   rw [HNX.out] at P2
   obtain ⟨s1, hs1'⟩ : ∃ s, numB (T - (vs.map cg).sum) = s := ⟨_, rfl⟩
   obtain ⟨s2, hs2⟩ : ∃ s, numB (cg x) = s := ⟨_, rfl⟩
   obtain ⟨s3, hs3⟩ : ∃ s, numB (T - ((vs ++ [x]).map cg).sum) = s := ⟨_, rfl⟩
   obtain ⟨s4, hs4⟩ : ∃ s, shB (cg x) T = s := ⟨_, rfl⟩
   obtain ⟨s5, hs5⟩ : ∃ s, zB x = s := ⟨_, rfl⟩
   rw [hs1', hs2, hs3] at P2
   rw [hs2, hs4] at P1
   rw [hs5] at PI
   rw [hs2] at hen hwc
   rw [hs1', hs2]
   have HS3 := hid hs3; have HS4 := hid hs4; have HS5 := hid hs5
   have HVL := hid hvl
   clear hlx hat hrg1 hlt hg1 hs1 hxc hS1 hsum hsum1 hvl hxb hb5 hO5 hs1' hs2 hs3 hs4 hs5 hrg hS hO hW hBl
   go_wp2_with fail
   refine (HPW _ (HLy.out.call B5.out)).out.mono ?_; rintro e w6 ⟨rfl, hb6⟩
   have B6 := hid (bnext B5.out hb6); have O6 := hid (owns_call O5.out hb6); have R6 := hid (RG1.out.kept (row := none) ⟨hb6.os, hb6.tape, hb6.output, hb6.size, fun k hk _ => hb6.block k hk⟩ (by simp) (by simp)); have W6 := hid (Nat.le_trans W5.out hb6.size)
   clear hb6 hen
   go_wp2_with fail
   refine (P1 _ (HLy.out.call B6.out)).out.mono ?_; rintro e w7 ⟨rfl, hb7⟩
   have B7 := hid (bnext B6.out hb7); have O7 := hid (owns_call O6.out hb7); have R7 := hid (R6.out.kept (row := none) ⟨hb7.os, hb7.tape, hb7.output, hb7.size, fun k hk _ => hb7.block k hk⟩ (by simp) (by simp)); have W7 := hid (Nat.le_trans W6.out hb7.size)
   clear hb7
   go_wp2_with fail
   refine (PI _ (HLy.out.call B7.out)).out.mono ?_; rintro e w8 ⟨rfl, hb8⟩
   have B8 := hid (bnext B7.out hb8); have O8 := hid (owns_call O7.out hb8); have R8 := hid (R7.out.kept (row := none) ⟨hb8.os, hb8.tape, hb8.output, hb8.size, fun k hk _ => hb8.block k hk⟩ (by simp) (by simp)); have W8 := hid (Nat.le_trans W7.out hb8.size)
   clear hb8
   have hw8 := W8.out
   obtain ⟨hr0, hr1, hr2⟩ := Hr.out
   have hvl := HVL.out
   go_wp2_with (at_builtin; refine wpList_append_own _ rfl _ _ 26 rfl w4.heap.size 39 i0 (.agg #[.string ⟨#[]⟩, .string ⟨#[]⟩]) 2 32 Tryz.underlying26 hi hz0 hz1 hz2 rfl (by decide) _ vs.length _ rfl (O8.out.alloc _) ⟨w8.heap.size, 0, none⟩ 1 1 [.string s5, .string s4] rfl rfl (cell_two_new w8 (.string s5) (.string s4) 39) (by simp [Value.oneCell']) (by unfold maxLen; omega) (by omega) (by simp; omega) ?_; intro v' w9 hown9 hgrow9 _)
   have O9 := hid hown9
   have B9 : Hid (Below w.heap.size w w9) := B8.out.trans ((Below.refl _ _).alloc (Nat.le_refl _) _ |>.mono (by have := B8.out.size; omega) |>.trans ⟨hgrow9.os, hgrow9.tape, hgrow9.output, hgrow9.size, fun k hk => hgrow9.block k (by have := B8.out.size; simp; omega) (fun e => by have := (O8.out.lt k e.symm).1; omega)⟩)
   have R9 := hid ((R8.out.alloc (.cells #[.string s5, .string s4] 39)).kept hgrow9 (fun e => by have := (O8.out.lt B e.symm).1; omega) (fun e => by have := (O8.out.lt r e.symm).1; omega))
   have W9 := hid (show w4.heap.size ≤ w9.heap.size by have := hgrow9.size; simp at this; omega)
   clear hown9 hgrow9 hw8 hr0 hr1 hr2 hvl
   go_wp2_with fail
   refine (P2 _ (HLy.out.call B9.out)).out.mono ?_; rintro e w10 ⟨rfl, hb10⟩
   have B10 := hid (bnext B9.out hb10); have O10 := hid (owns_call O9.out hb10); have R10 := hid (R9.out.kept (row := none) ⟨hb10.os, hb10.tape, hb10.output, hb10.size, fun k hk _ => hb10.block k hk⟩ (by simp) (by simp)); have W10 := hid (Nat.le_trans W9.out hb10.size)
   clear hb10
   go_wp2_with fail
   go_roundw
   case rel =>
    refine ⟨_, cnt1, vs ++ [x], R10, HS1, by rw [HS3.out], hid ?_, W10, B10⟩
    rw [List.length_append, List.length_singleton, HPR.out, massC_append, HS4.out, HS5.out]
    exact O10.out
   case measure => rw [R10.out.left_eq, HRG.out.left_eq]; exact HLT.out
end Go.Proofs.YtckihjfkafdncaaGreatDoor
namespace Go.Proofs.YtckihjfkafdncaaGreatDoor
open Go.RowKit
open Go.Lib (decDigits nDigits)
def glR (a : ByteArray) (n : Int) (two : Bool) : List (ByteArray × ByteArray) := if glE a n 32 = 0 then sortM (glP (gV (bN (cW a)) (bN (qD a)) two n.toNat) (2 ^ n.toNat) n.toNat (gL (bN (cW a)) (bN (qD a)) two n.toNat)) else []
theorem g_listed (w : World) (a : ByteArray) (n : Int) (two : Bool) (ha : a.size ≤ 100000) (hL : Lay w) :
 Calls Tryz.prog 128 #[.string a, .int .i64 n, .bool two] w fun e w' => (∃ v, e = .returned (.tuple #[v, .int .i64 (glE a n 32)]) ∧ MRow w' v (glR a n two)) ∧ Below w.heap.size w w' := by
 by_cases he : gPE a = 0
 ·by_cases hn : n < 0 ∨ 32 < n
  ·have e1 : glE a n 32 = 2 := by unfold glE; rw [if_neg (by rw [he]; simp), if_pos hn]
   have e2 : glR a n two = [] := by unfold glR; rw [if_neg (by rw [e1]; decide)]
   rw [e1, e2]
   have HA := hid (g_ratio w a ha hL)
   rw [if_pos he, if_pos he, he] at HA
   obtain ⟨b1, k1⟩ : ∃ b, decide (n < 0) = b := ⟨_, rfl⟩
   obtain ⟨b2, k2⟩ : ∃ b, decide (32 < n) = b := ⟨_, rfl⟩
   have k3 : (b1 || b2) = true := by rw [← k1, ← k2]; simpa using hn
   clear ha hL he hn e1 e2
   cases b1
   ·obtain rfl : b2 = true := by simpa using k3
    clear k3
    go_enter Tryz.func128, Tryz.ntmps128
    go_wp2_with fail
    refine HA.out.mono ?_; rintro e w1 ⟨rfl, hb1⟩
    have B1 := hid hb1; clear hb1 HA
    go_wp2_with fail
    go_ret2
    exact ⟨⟨_, rfl, MRow.nil _⟩, B1.out⟩
   ·clear k2 k3
    go_enter Tryz.func128, Tryz.ntmps128
    go_wp2_with fail
    refine HA.out.mono ?_; rintro e w1 ⟨rfl, hb1⟩
    have B1 := hid hb1; clear hb1 HA
    go_wp2_with fail
    go_ret2
    exact ⟨⟨_, rfl, MRow.nil _⟩, B1.out⟩
  ·obtain ⟨m, rfl⟩ : ∃ m : Nat, n = (m : Nat) := ⟨n.toNat, by omega⟩
   have e1 : glE a (m : Nat) 32 = 0 := by unfold glE; rw [if_neg (by rw [he]; simp), if_neg hn]
   have hND := (gPE_ok he).2
   have := g_listed_ok (H := Unit) w a m _ _ two ha he (by omega) rfl rfl hND hL
   unfold glR
   rw [if_pos e1, e1, Int.toNat_natCast]
   exact this
 ·have e1 : glE a n 32 = gPE a := by unfold glE; rw [if_pos he]
  have e2 : glR a n two = [] := by unfold glR; rw [if_neg (by rw [e1]; exact he)]
  rw [e1, e2]
  have HA := hid (g_ratio w a ha hL)
  rw [if_neg he, if_neg he] at HA
  obtain ⟨x, hx⟩ : ∃ x, gPE a = x := ⟨_, rfl⟩
  rw [hx] at HA he ⊢
  have x0 : (x != 0) = true := by simpa using he
  clear ha hL he hx e1 e2
  go_enter Tryz.func128, Tryz.ntmps128
  go_wp2_with fail
  refine HA.out.mono ?_; rintro e w1 ⟨rfl, hb1⟩
  have B1 := hid hb1; clear hb1 HA
  go_wp2_with fail
  go_ret2
  exact ⟨⟨_, rfl, MRow.nil _⟩, B1.out⟩
theorem g_OneLaw (w : World) (a : ByteArray) (n : Int) (ha : a.size ≤ 100000) (hL : Lay w) :
 Calls Tryz.prog 80 #[.string a, .int .i64 n] w fun e w' => (∃ v, e = .returned (.tuple #[v, .int .i64 (glE a n 32)]) ∧ MRow w' v (glR a n false)) ∧ Below w.heap.size w w' := by
 have H := hid (g_listed w a n false ha hL)
 obtain ⟨o, ho⟩ : ∃ o, glR a n false = o := ⟨_, rfl⟩
 obtain ⟨x, hx⟩ : ∃ x, glE a n 32 = x := ⟨_, rfl⟩
 rw [ho, hx] at H ⊢
 clear ha hL ho hx
 go_enter Tryz.func80, Tryz.ntmps80
 go_wp2_with fail
 refine H.out.mono ?_; rintro e w1 ⟨⟨v, rfl, hv⟩, hb1⟩
 have B1 := hid hb1; have V1 := hid hv; clear hb1 hv
 go_wp2_with fail
 go_ret2
 exact ⟨⟨_, rfl, V1.out⟩, B1.out⟩
open Go.Shelf
open Go.Maps
def sumD {H : Type} (g o n c : Nat) : DataW H := .agg [.lit (.int .i64 g), .lit (.int .i64 o), .lit (.int .i64 n), .lit (.int .i64 c)]
def sumE {H : Type} (v : Value) : Option (DataW H × List MemPlace) := match v with
 | .slice none 0 0 => some (.lit (.bool false), [])
 | .slice (some ⟨g, o, none⟩) n c => some (sumD g o n c, [])
 | _ => none
theorem sumE_nil {H : Type} {v : Value} {ps : List MemPlace} (h : sumE (H := H) v = some (.lit (.bool false), ps)) : v = .slice none 0 0 := by
 unfold sumE at h
 split at h
 ·rfl
 ·simp [sumD] at h
 ·cases h
theorem sumE_row {H : Type} {v : Value} {g o n c : Nat} {ps : List MemPlace} (h : sumE (H := H) v = some (sumD g o n c, ps)) : v = .slice (some ⟨g, o, none⟩) n c := by
 unfold sumE at h
 split at h
 ·simp [sumD] at h
 ·simp only [sumD, Option.some.injEq, Prod.mk.injEq, DataW.agg.injEq, List.cons.injEq, DataW.lit.injEq, Lit.int.injEq, true_and, and_true, Int.ofNat_inj, Int.natCast_inj] at h
  obtain ⟨⟨rfl, rfl, rfl, rfl⟩, -⟩ := h
  rfl
 ·cases h
structure NoiS (H : Type) (w : World) (bx bm bp : Nat) (g : Int → Nat) (n : Nat) : Prop where
 x : Blk w bx #[.slice (some ⟨bp, 0, none⟩) (n + 1) (n + 1), .map (some bm)] 63
 p : Blk w bp (strs (prT g n)).toArray 22
 m : w.ownsMap Tryz.prog 3 (sumE (H := H)) bm 0 (.map []) ∨ ∃ gs cs, w.ownsMap Tryz.prog 3 (sumE (H := H)) bm 1 ((DataW.map []).put (.int .i64 ((n + 1 : Nat) : Int)) (sumD gs 0 (n + 2) cs)) ∧ w.ownsRow 0 22 1 (.slice (some ⟨gs, 0, none⟩) (n + 2) cs) (n + 2) (strs (cmL g n (n + 1))) ∧ gs ≠ bm
theorem NoiS.call {H : Type} {w w' : World} {bx bm bp : Nat} {g : Int → Nat} {n : Nat} (h : NoiS H w bx bm bp g n) (hb : Below w.heap.size w w') : NoiS H w' bx bm bp g n := by
 refine ⟨h.x.call hb, h.p.call hb, ?_⟩
 rcases h.m with h1 | ⟨gs, cs, h1, h2, h3⟩
 ·exact .inl (h1.kept (below_grown hb none) (by simp))
 ·exact .inr ⟨gs, cs, h1.kept (below_grown hb none) (by simp), owns_call h2 hb, h3⟩
theorem NoiS.grown {H : Type} {w w' : World} {bx bm bp : Nat} {g : Int → Nat} {n : Nat} {row : Option Nat} (h : NoiS H w bx bm bp g n) (hg : w.grownBy w' row) (hrow : ∀ r, row = some r → ∃ cur, w.heap[r]? = some (.cells cur 39 (0, 0))) : NoiS H w' bx bm bp g n := by
 have key : ∀ (b : Nat) (cs : Array Value) (t : TypeId), Blk w b cs t → t ≠ 39 → row ≠ some b := fun b cs t hb ht e => by
  obtain ⟨cur, h1⟩ := hrow b e
  have h2 := (show w.heap[b]? = _ from hb).symm.trans h1
  simp only [Option.some.injEq, Obj.cells.injEq] at h2
  exact ht h2.2.1
 have kmap : ∀ {m : Nat} {D : DataW H}, w.ownsMap Tryz.prog 3 (sumE (H := H)) bm m D → some bm ≠ row := fun hm e => by
  obtain ⟨cur, h1⟩ := hrow bm e.symm
  obtain ⟨es, ck, h2, -⟩ := hm
  rw [h2] at h1; cases h1
 refine ⟨h.x.grown hg (key _ _ _ h.x (by decide)), h.p.grown hg (key _ _ _ h.p (by decide)), ?_⟩
 rcases h.m with h1 | ⟨gs, cs, h1, h2, h3⟩
 ·exact .inl (h1.kept hg (kmap h1))
 ·refine .inr ⟨gs, cs, h1.kept hg (kmap h1), h2.kept hg (.inr fun e => ?_), h3⟩
  simp only [Value.ownBlock] at e
  obtain ⟨cur, h4⟩ := hrow gs e.symm
  rcases h2.2 with ⟨e1, _⟩ | ⟨g', cap', cur', e1, -, hgb, -⟩
  ·simp at e1
  ·simp at e1
   obtain ⟨rfl, rfl⟩ := e1
   rw [hgb] at h4
   simp at h4
theorem glR_ok {a : ByteArray} {n : Nat} (he : gPE a = 0) (hn : n ≤ 32) (two : Bool) : glE a (n : Nat) 32 = 0 ∧ glR a (n : Nat) two = sortM (glP (gV (bN (cW a)) (bN (qD a)) two n) (2 ^ n) n (gL (bN (cW a)) (bN (qD a)) two n)) := by
 have e1 : glE a (n : Nat) 32 = 0 := by unfold glE; rw [if_neg (by rw [he]; simp), if_neg (by omega)]
 exact ⟨e1, by unfold glR; rw [if_pos e1, Int.toNat_natCast]⟩
theorem gL_le2 {N D : Nat} (h : N < D) (two : Bool) (n : Nat) : gL N D two n ≤ 2 ^ n := by
 have := gV_all h two n
 omega
theorem glP_nz {g : Int → Nat} {n r : Nat} (hn : n ≤ 1000) (hg : ∀ v, g v ≤ 2 ^ n) (hr : r ≤ 2 ^ n) (p : ByteArray × ByteArray) (hp : p ∈ sortM (glP g (2 ^ n) n r)) : p.2 ≠ ⟨#[48]⟩ := by
 rw [sortM_mem, glP_mem] at hp
 rcases hp with ⟨v, -, -, h3, rfl⟩ | ⟨h3, rfl⟩
 ·exact fun e => h3 ((dy_eq_zero (hg v) hn).1 e)
 ·exact fun e => h3 ((dy_eq_zero hr hn).1 e)
theorem cell_of_heap {w w' : World} {b i : Nat} (h : w'.heap[b]? = w.heap[b]?) : w'.cell? ⟨b, i, none⟩ = w.cell? ⟨b, i, none⟩ := by
 unfold World.cell?
 rw [h]
theorem fd_newNoise {H : Type} (w : World) (a : ByteArray) (n : Nat) (ha : a.size ≤ 100000) (he : gPE a = 0) (hn : n ≤ 32) (hL : LayB w) :
 Calls Tryz.prog 29 #[.string a, .int .i64 (n : Nat)] w fun e w' => (∃ bx bm bp, e = .returned (.pointer (some ⟨bx, 0, none⟩)) ∧ w.heap.size ≤ bm ∧ NoiS H w' bx bm bp (gV (bN (cW a)) (bN (qD a)) false n) n) ∧ Below w.heap.size w w' := by
 obtain ⟨e1, e2⟩ := glR_ok (n := n) he hn false
 have hg : ∀ v : Int, v < 0 → gV (bN (cW a)) (bN (qD a)) false n v = 0 := fun v hv => gV_one_neg n hv
 have PO := fun V hV => hid (g_OneLaw V a (n : Nat) ha hV)
 rw [e1, e2] at PO
 have hrle := gL_le2 (gPE_ok he).2 false n
 have hgle := fun v => gV_le (gPE_ok he).2 false n v
 obtain ⟨r, hr⟩ : ∃ r, gL (bN (cW a)) (bN (qD a)) false n = r := ⟨_, rfl⟩
 rw [hr] at PO hrle
 obtain ⟨g, hgg⟩ : ∃ g, gV (bN (cW a)) (bN (qD a)) false n = g := ⟨_, rfl⟩
 rw [hgg] at PO hg hgle ⊢
 have HNZ : Hid (∀ p ∈ sortM (glP g (2 ^ n) n r), p.2 ≠ ⟨#[48]⟩) := fun p hp => glP_nz (by omega) hgle hrle p hp
 have HMS := hid (fun p hp => nz_mass (g := g) (n := n) (r := r) hg (p := p) hp)
 have HALL := hid (nzT_all (g := g) (n := n) (r := r) hg)
 obtain ⟨L, hLL⟩ : ∃ L, sortM (glP g (2 ^ n) n r) = L := ⟨_, rfl⟩
 rw [hLL] at PO HMS HALL HNZ
 have HT1 := hid (fun v (hv : v ≤ n) ks => nzT_num g (n := n) (v := v) hv ks)
 have HT2 := hid (fun ks => nzT_late g n ks)
 have HT0 := hid (nzT_nil g n)
 have HLY := hid hL; have HN := hid hn
 have PR := fun V g0 hc => hid (s_Repeat V g0 (n + 1) ⟨#[48]⟩ (by omega) (by omega) hc)
 have PA := fun V i (h : i ≤ 1000000) => hid (b_AtoiN V i h)
 have PL := fun V h => hid (b_AtoiL V h)
 have wn : IntKind.i64.wrap ((n : Int) + 1) = (n : Int) + 1 := by rw [IntWalk.i64_in _ ⟨by omega, by omega⟩]
 have hmm := @run_makeMap Tryz.prog
 have c0 : (w.alloc (.cells #[.string ⟨#[48]⟩] 22)).cell? ⟨w.heap.size, 0, none⟩ = some (.string ⟨#[48]⟩) := (Blk.new w #[.string ⟨#[48]⟩] 22).cell 0
 clear e1 e2 hg hr hgg hLL hL ha he hn hrle hgle
 go_enter Tryz.func29, Tryz.ntmps29
 go_wp2_with fail
 refine (PR _ _ c0).out.mono ?_; rintro e w1 ⟨rfl, hbk, hb1⟩
 have y1 := hid (((Below.refl w.heap.size w).alloc (Nat.le_refl _) (.cells #[.string ⟨#[48]⟩] 22)).trans (hb1.mono (by simp)))
 have esz : (w.alloc (.cells #[.string ⟨#[48]⟩] 22)).heap.size = w.heap.size + 1 := by simp
 rw [esz] at hbk ⊢
 obtain ⟨bp, hbp⟩ : ∃ bp, w.heap.size + 1 = bp := ⟨_, rfl⟩
 rw [hbp] at hbk ⊢
 have HBP : Hid (w.heap.size ≤ bp ∧ bp < w1.heap.size) := ⟨by omega, hbk.lt⟩
 have P1 : Hid (Blk w1 bp (strs (nzT g n (ksL L 0))).toArray 22) := by
  show Blk _ _ _ _
  rw [ksL_zero, HT0.out]; exact hbk
 clear hb1 hbk hbp c0 PR
 go_wp2_with fail
 have X2 := hid (Blk.made (w1.alloc (.map #[] 0)) #[.slice (some ⟨bp, 0, none⟩) (n + 1) (n + 1), .map (some w1.heap.size)] 63 (n := w1.heap.size + 1) (by simp))
 have M2 : Hid (((w1.alloc (.map #[] 0)).alloc (.cells #[.slice (some ⟨bp, 0, none⟩) (n + 1) (n + 1), .map (some w1.heap.size)] 63)).ownsMap Tryz.prog 3 (sumE (H := H)) w1.heap.size 0 (.map [])) := (World.ownsMap_made w1 Tryz.prog 3 sumE).alloc _
 have P2 := hid ((P1.out.alloc (.map #[] 0)).alloc (.cells #[.slice (some ⟨bp, 0, none⟩) (n + 1) (n + 1), .map (some w1.heap.size)] 63))
 have y2 := hid ((y1.out.alloc y1.out.size (.map #[] 0)).alloc (y1.out.alloc y1.out.size _).size (.cells #[.slice (some ⟨bp, 0, none⟩) (n + 1) (n + 1), .map (some w1.heap.size)] 63))
 obtain ⟨w2, hw2⟩ : ∃ w2, (w1.alloc (.map #[] 0)).alloc (.cells #[.slice (some ⟨bp, 0, none⟩) (n + 1) (n + 1), .map (some w1.heap.size)] 63) = w2 := ⟨_, rfl⟩
 have HBM : Hid (w.heap.size ≤ w1.heap.size) := y1.out.size
 have hne : Hid (bp ≠ w1.heap.size ∧ bp ≠ w1.heap.size + 1) := by have := HBP.out; exact ⟨by omega, by omega⟩
 obtain ⟨bm, hbm⟩ : ∃ bm, w1.heap.size = bm := ⟨_, rfl⟩
 rw [hw2] at X2 M2 P2 y2 ⊢
 rw [hbm] at X2 M2 HBM hne ⊢
 clear hw2 hbm P1 y1
 refine (PO _ (HLY.out.call y2.out).l).out.mono ?_; rintro e w3 ⟨⟨v, rfl, hv⟩, hb3⟩
 have X3 := hid (X2.out.call hb3)
 have M3 := hid (M2.out.kept (below_grown hb3 none) (by simp))
 have P3 := hid (P2.out.call hb3)
 have y3 := hid (bnext y2.out hb3)
 have HV := hid hv
 obtain ⟨a1, c1, rfl, k1, k2, k3⟩ := hv.ex
 have K3 := hid k3
 clear hb3 hv k3 X2 M2 P2 y2 PO
 obtain ⟨N, hN⟩ : ∃ N, L.length = N := ⟨_, rfl⟩
 rw [hN] at k1 HV ⊢
 have HNL := hid hN
 clear hN
 go_wp2_with fail
 go_loopw [9, 10, 11, 27] (fun s9 s10 s11 s27 wr => ∃ j : Nat, s27 = .int .i64 (j : Nat) ∧ j ≤ N ∧ Hid (Blk wr bp (strs (nzT g n (ksL L j))).toArray 22) ∧ Hid (Blk wr (bm + 1) #[.slice (some ⟨bp, 0, none⟩) (n + 1) (n + 1), .map (some bm)] 63) ∧ Hid (wr.ownsMap Tryz.prog 3 (sumE (H := H)) bm 0 (.map [])) ∧ Hid (w3.heap.size ≤ wr.heap.size) ∧ Hid (Below w.heap.size w wr) ∧ Hid (∀ k < w3.heap.size, k ≠ bp → wr.heap[k]? = w3.heap[k]?)) (fun s9 s10 s11 s27 wr => N - (intOf s27).toNat)
 case atStart => exact ⟨0, rfl, Nat.zero_le _, P3, X3, M3, hid (Nat.le_refl _), y3, fun k hk _ => rfl⟩
 case round =>
  obtain ⟨j, rfl, hj, hP, hX, hM, hsz3, hB, hK⟩ := hrel
  by_cases hlt : j < N
  ·obtain ⟨p, hp⟩ : ∃ p, L[j]? = some p := ⟨_, List.getElem?_eq_getElem (by rw [HNL.out]; exact hlt)⟩
   obtain ⟨g9, o9, rfl, hg9, m1, m2⟩ := K3.out j p hp
   have hcase := HMS.out p (List.mem_of_getElem? hp)
   have hks := hid (ksL_succ hp)
   obtain ⟨pk, pv⟩ := p
   dsimp only at m1 m2 hks hcase
   rw [Nat.mul_comm 2] at m1 m2
   have hne9 : g9 ≠ bp := fun e => by
    subst e
    have h1 := P3.out.cell (o9 + j * 2 + 1)
    rw [m2] at h1
    have h2 := h1.symm
    rw [ksL_zero, HT0.out, List.getElem?_toArray] at h2
    have h3 := List.mem_of_getElem? h2
    simp only [strs, List.map_replicate] at h3
    have h4 := List.eq_of_mem_replicate h3
    injection h4 with h4
    exact HNZ.out _ (List.mem_of_getElem? hp) h4
   have r1 := (cell_of_heap (hK.out g9 hg9 hne9)).trans m1
   have r2 := (cell_of_heap (hK.out g9 hg9 hne9)).trans m2
   have b1 : (0 : Int) ≤ (j : Int) := by omega
   have b2 : (j : Int) < (N : Int) := by omega
   have wj : IntKind.i64.wrap ((j : Int) + 1) = ((j + 1 : Nat) : Int) := by have := k1; rw [IntWalk.i64_in _ ⟨by omega, by omega⟩]; omega
   have HP := hid hp
   clear m1 m2 hg9 hne9 hp
   go_wp2_with fail
   have X1 := hid (Blk.new wr #[.string pk, .string pv] 39)
   have A1 := hid ((Below.refl wr.heap.size wr).alloc (Nat.le_refl _) (.cells #[.string pk, .string pv] 39))
   rcases hcase with ⟨v, hv, e⟩ | e
   ·simp only [Prod.mk.injEq] at e
    obtain ⟨e1, e2⟩ := e
    have PAv := fun V => PA V v (by have := HN.out; omega)
    have hst := hid (HT1.out v hv (ksL L j))
    rw [← e1] at PAv
    rw [← e1, ← e2] at hst
    have HVN := hid hv
    clear r1 r2 e1 e2
    refine (PAv _).out.mono ?_; rintro e w4 ⟨rfl, hb4⟩
    have hb5 := hid (bnext A1.out hb4)
    have X4 := hid (X1.out.call hb4)
    have P4 := hid (hP.out.call hb5.out)
    have Q4 := hid (hX.out.call hb5.out)
    have M4 := hid (hM.out.kept (below_grown hb5.out none) (by simp))
    clear hb4
    have z1 := X4.out.cell 1
    have z2 := Q4.out.cell 0
    have z3 : w4.cell? ⟨bp, v, none⟩ = some (.string ((nzT g n (ksL L j)).getD v ⟨#[]⟩)) := by
     rw [P4.out.cell, List.getElem?_toArray]
     refine strs_get ?_
     rw [List.getD_eq_getElem?_getD, List.getElem?_eq_getElem (by rw [nzT_length]; omega)]; rfl
    have z4 := P4.out.free v
    have b3 : (0 : Int) ≤ (v : Int) := by omega
    have b4 : (v : Int) < (n : Int) + 1 := by omega
    simp at z1 z2
    have hlt9 : bp < wr.heap.size := by have := HBP.out.2; have := hP.out.lt; omega
    have f1 : (bp = bm + 1) = False := eq_false hne.out.2
    have f2 : (bm + 1 = bp) = False := eq_false (fun e => hne.out.2 e.symm)
    have f3 : (bp = wr.heap.size) = False := eq_false (by omega)
    have f4 : (wr.heap.size = bp) = False := eq_false (by omega)
    have HB5 := hid (hB.out.trans (hb5.out.mono hB.out.size))
    have HLT9 := hid hlt9
    clear hlt9
    go_wp2_with fail
    go_region
    go_wp2_with fail
    go_roundw
    case rel =>
     refine ⟨j + 1, by go_num, by omega, ?_, hid ((Q4.out.other (fun e => hne.out.2 (by simpa using e)) _).call (Below.refl _ _).drew), hid (((M4.out.setCell (a := ⟨bp, v, none⟩) (fun e => hne.out.1 e.symm) _)).drew), hid (by have := hb5.out.size; have := hsz3.out; simp; omega), hid ((HB5.out.setCell (p := ⟨bp, v, none⟩) HBP.out.1 _).drew), fun k hk hne2 => ?_⟩
     ·have h := ((P4.out.set v (.string pv)).call (Below.refl _ _).drew)
      rw [List.setIfInBounds_toArray] at h
      have e : strs (nzT g n (ksL L (j + 1))) = (strs (nzT g n (ksL L j))).set v (.string pv) := by
       rw [hks.out, hst.out]
       unfold strs
       rw [List.map_set]
      show Blk _ _ _ _
      rw [e]
      exact h
     ·have h1 : ((w4.setCell ⟨bp, v, none⟩ (.string pv)).drew).heap[k]? = w4.heap[k]? := Below.heap_setCell _ _ _ _ (by simpa using hne2)
      exact h1.trans ((hb5.out.block k (Nat.lt_of_lt_of_le hk hsz3.out)).trans (hK.out k hk hne2))
    case measure => simp [intOf] <;> omega
   ·obtain rfl : pk = lateB := e
    have hst := hid (HT2.out (ksL L j))
    have LS := hid ((HLY.out.call (hB.out.trans (A1.out.mono hB.out.size))).s)
    unfold lateB at X1
    clear r1 r2
    refine (PL _ LS.out).out.mono ?_; rintro e w4 ⟨⟨te, pe, rfl⟩, hb4⟩
    have hb5 := hid (bnext A1.out hb4)
    clear hb4
    go_wp2_with fail
    go_roundw
    case rel => exact ⟨j + 1, by go_num, by omega, hid (by rw [hks.out, hst.out]; exact hP.out.call hb5.out), hid (hX.out.call hb5.out), hid (hM.out.kept (below_grown hb5.out none) (by simp)), hid (Nat.le_trans hsz3.out hb5.out.size), hid (hB.out.trans (hb5.out.mono hB.out.size)), fun k hk hne => ((hb5.out.block k (Nat.lt_of_lt_of_le hk hsz3.out)).trans (hK.out k hk hne))⟩
    case measure => simp [intOf] <;> omega
  ·obtain rfl : j = N := by omega
   have q1 : decide ((j : Int) < (j : Int)) = false := by simp
   have HP2 : Hid (Blk wr bp (strs (prT g n)).toArray 22) := by
    show Blk _ _ _ _
    have := hP.out
    rw [← HNL.out, ksL_all, HALL.out] at this
    exact this
   clear hlt
   go_wp2_with fail
   go_ret
   exact ⟨⟨bm + 1, bm, bp, rfl, HBM.out, ⟨hX.out, HP2.out, .inl hM.out⟩⟩, hB.out⟩
end Go.Proofs.YtckihjfkafdncaaGreatDoor
namespace Go.Proofs.YtckihjfkafdncaaGreatDoor
open Go.RowKit
open Go.Shelf
open Go.Lib (decDigits nDigits)
theorem fd_ratio (w : World) (a : ByteArray) (ha : a.size ≤ 100000) (hL : Lay w) :
 Calls Tryz.prog 50 #[.string a] w fun e w' => e = .returned (.int .i64 (gPE a)) ∧ Below w.heap.size w w' := by
 have HG := hid (g_One w a ⟨#[]⟩ ha (by decide) hL)
 rw [gE_empty] at HG
 obtain ⟨t, ht⟩ : ∃ t, oT a ⟨#[]⟩ = t := ⟨_, rfl⟩
 obtain ⟨x, hx⟩ : ∃ x, gPE a = x := ⟨_, rfl⟩
 rw [ht, hx] at HG
 rw [hx]
 obtain ⟨d, v, u⟩ := t
 simp only [d3] at HG
 clear ha hL ht hx
 go_enter Tryz.func50, Tryz.ntmps50
 go_wp2_with fail
 refine HG.out.mono ?_; rintro e w1 ⟨rfl, hb1⟩
 go_wp2_with fail
 go_ret
 exact ⟨rfl, hb1.alloc hb1.size _⟩
theorem fd_wild (w : World) (u : Int) : Calls Tryz.prog 78 #[.int .i64 u] w fun e w' => e = .returned (.bool (wildB u)) ∧ w = w' := by
 unfold wildB
 obtain ⟨a, ha⟩ : ∃ a, decide (u < -1125899906842624) = a := ⟨_, rfl⟩
 obtain ⟨b, hb⟩ : ∃ b, decide (1125899906842624 < u) = b := ⟨_, rfl⟩
 rw [ha, hb]
 cases a
 ·go_enter Tryz.func78, Tryz.ntmps78
  go_wp2_with fail
  go_ret
  exact ⟨rfl, rfl⟩
 ·clear hb
  go_enter Tryz.func78, Tryz.ntmps78
  go_wp2_with fail
  go_ret
  exact ⟨rfl, rfl⟩
theorem fd_question (w : World) (v : Value) (c : List Int) (a : ByteArray) (hv : Row w v (zs c)) (ha : a.size ≤ 100000) (hL : Lay w) :
 Calls Tryz.prog 28 #[v, .string a] w fun e w' => e = .returned (.int .i64 (qnE c a)) ∧ Below w.heap.size w w' := by
 have HR := hid (fd_ratio w a ha hL)
 obtain ⟨s, cp, rfl, q1, q2, q3⟩ := hv.openZ
 have HC := hid (s_ContainsFuncI w _ c 78 wildB hv (by omega) (enters_of Tryz.func78 (by kernel_rfl) rfl) (fun W x => fd_wild W x))
 obtain ⟨n, hn⟩ : ∃ n, c.length = n := ⟨_, rfl⟩
 obtain ⟨g, hg⟩ : ∃ g, gPE a = g := ⟨_, rfl⟩
 obtain ⟨b, hb⟩ : ∃ b, c.any wildB = b := ⟨_, rfl⟩
 unfold qnE ctE zE
 rw [hg] at HR ⊢
 rw [hb] at HC ⊢
 rw [hn] at HC ⊢
 clear hv ha hL q1 q2 q3 hn hg hb
 by_cases h0 : n = 0
 ·subst h0
  rw [if_pos rfl, if_pos (by decide)]
  go_enter Tryz.func28, Tryz.ntmps28
  go_wp2_with fail
  go_ret
  exact ⟨rfl, Below.refl _ _⟩
 ·have t0 : ((n : Int) == 0) = false := by rw [beq_eq_false_iff_ne]; omega
  by_cases h1 : 256 < n
  ·have t1 : decide ((256 : Int) < (n : Int)) = true := by simp; omega
   rw [if_neg h0, if_pos h1, if_pos (by decide)]
   clear h0 h1
   go_enter Tryz.func28, Tryz.ntmps28
   go_wp2_with fail
   go_ret
   exact ⟨rfl, Below.refl _ _⟩
  ·have t1 : decide ((256 : Int) < (n : Int)) = false := by simp; omega
   rw [if_neg h0, if_neg h1]
   clear h0 h1
   cases b
   ·simp only [Bool.false_eq_true, if_false, ne_eq, not_true_eq_false]
    go_enter Tryz.func28, Tryz.ntmps28
    go_wp2_with fail
    refine HC.out.mono ?_; rintro e w1 ⟨rfl, rfl⟩
    go_wp2_with fail
    refine HR.out.mono ?_; rintro e w2 ⟨rfl, hb2⟩
    go_wp2_with fail
    go_ret
    exact ⟨rfl, hb2⟩
   ·rw [if_pos rfl, if_pos (by decide)]
    clear HR
    go_enter Tryz.func28, Tryz.ntmps28
    go_wp2_with fail
    refine HC.out.mono ?_; rintro e w1 ⟨rfl, rfl⟩
    go_wp2_with fail
    go_ret
    exact ⟨rfl, Below.refl _ _⟩
theorem fd_plus (w : World) (s t : ByteArray) (hs : s.size ≤ 1000000) (ht : t.size ≤ 1000000) (hL : Lay w) :
 Calls Tryz.prog 32 #[.string s, .string t] w fun e w' => e = .returned (.string (op2B (· + ·) s t)) ∧ Below w.heap.size w w' := by
 have H := hid (q_Add w s t hs ht hL)
 obtain ⟨B, hB⟩ : ∃ B, op2B (· + ·) s t = B := ⟨_, rfl⟩
 obtain ⟨E, hE⟩ : ∃ E, op2E (· + ·) s t = E := ⟨_, rfl⟩
 rw [hB, hE] at H
 rw [hB]
 clear hs ht hL hB hE
 go_enter Tryz.func32, Tryz.ntmps32
 go_wp2_with fail
 refine H.out.mono ?_; rintro e w1 ⟨rfl, hb1⟩
 go_wp2_with fail
 go_ret
 exact ⟨rfl, hb1⟩
theorem fd_less (w : World) (s t : ByteArray) (hs : s.size ≤ 1000000) (ht : t.size ≤ 1000000) (hL : Lay w) :
 Calls Tryz.prog 34 #[.string s, .string t] w fun e w' => e = .returned (.string (op2B (· - ·) s t)) ∧ Below w.heap.size w w' := by
 have H := hid (q_Sub w s t hs ht hL)
 obtain ⟨B, hB⟩ : ∃ B, op2B (· - ·) s t = B := ⟨_, rfl⟩
 obtain ⟨E, hE⟩ : ∃ E, op2E (· - ·) s t = E := ⟨_, rfl⟩
 rw [hB, hE] at H
 rw [hB]
 clear hs ht hL hB hE
 go_enter Tryz.func34, Tryz.ntmps34
 go_wp2_with fail
 refine H.out.mono ?_; rintro e w1 ⟨rfl, hb1⟩
 go_wp2_with fail
 go_ret
 exact ⟨rfl, hb1⟩
theorem fd_times (w : World) (s t : ByteArray) (hs : s.size ≤ 1000000) (ht : t.size ≤ 1000000) (hL : Lay w) :
 Calls Tryz.prog 30 #[.string s, .string t] w fun e w' => e = .returned (.string (op2B (· * ·) s t)) ∧ Below w.heap.size w w' := by
 have H := hid (q_Mul w s t hs ht hL)
 obtain ⟨B, hB⟩ : ∃ B, op2B (· * ·) s t = B := ⟨_, rfl⟩
 obtain ⟨E, hE⟩ : ∃ E, op2E (· * ·) s t = E := ⟨_, rfl⟩
 rw [hB, hE] at H
 rw [hB]
 clear hs ht hL hB hE
 go_enter Tryz.func30, Tryz.ntmps30
 go_wp2_with fail
 refine H.out.mono ?_; rintro e w1 ⟨rfl, hb1⟩
 go_wp2_with fail
 go_ret
 exact ⟨rfl, hb1⟩
open Go.Maps
theorem own_base {W : World} {base base' : Nat} {e : TypeId} {k : Nat} {v : Value} {n : Nat} {xs : List Value} (h : W.ownsRow base e k v n xs) (hb : base' ≤ base) : W.ownsRow base' e k v n xs := by
 obtain ⟨h1, h2⟩ := h
 rcases h2 with h2 | ⟨g, cap, cur, a1, a2, a3⟩
 ·exact ⟨h1, .inl h2⟩
 ·exact ⟨h1, .inr ⟨g, cap, cur, a1, Nat.le_trans hb a2, a3⟩⟩
theorem zero_nums (w : World) : (zeroValue 60).run Tryz.prog w = .ok (.slice none 0 0) w := by kernel_rfl
theorem sum_look0 {H : Type} {w : World} {B : Nat} (h : w.ownsMap Tryz.prog 3 (sumE (H := H)) B 0 (.map [])) {k : Int} (hk : (Lit.int .i64 k).wf = true) :
 (Instr.lookup 61 (.map (some B)) (.int .i64 k) true).run Tryz.prog w = .ok (.tuple #[.slice none 0 0, .bool false]) w := by
 obtain ⟨v, ps, h1, h2⟩ := h.look_ok (int_keyed Tryz.underlying3) Tryz.underlying61 (zero_nums w) (zd := .lit (.bool false)) (zp := []) rfl (keyOf_int_mk Tryz.underlying3 hk)
 have e1 : Maps.has (DataW.map [] : DataW H) (.int .i64 k) = false := by simp [Maps.has_eq]
 have e2 : (DataW.map [] : DataW H).atKey (.int .i64 k) (.lit (.bool false)) = .lit (.bool false) := by simp [DataW.atKey]
 rw [e1] at h1
 rw [e2] at h2
 rw [sumE_nil h2] at h1
 exact h1
theorem sum_look1 {H : Type} {w : World} {B m gs n cs : Nat} {k : Int} (h : w.ownsMap Tryz.prog 3 (sumE (H := H)) B m ((DataW.map []).put (.int .i64 k) (sumD gs 0 n cs))) (hk : (Lit.int .i64 k).wf = true) :
 (Instr.lookup 61 (.map (some B)) (.int .i64 k) true).run Tryz.prog w = .ok (.tuple #[.slice (some ⟨gs, 0, none⟩) n cs, .bool true]) w := by
 obtain ⟨v, ps, h1, h2⟩ := h.look_ok (int_keyed Tryz.underlying3) Tryz.underlying61 (zero_nums w) (zd := .lit (.bool false)) (zp := []) rfl (keyOf_int_mk Tryz.underlying3 hk)
 rw [has_put_same isMap_empty (show WideAt.IsKeyLit (.int .i64 k) from trivial)] at h1
 rw [atKey_put_same isMap_empty (show WideAt.IsKeyLit (.int .i64 k) from trivial)] at h2
 rw [sumE_row h2] at h1
 exact h1
theorem fd_below {H : Type} (w : World) (bx bm bp n : Nat) (g : Int → Nat) (most : Int) (hn : n ≤ 32) (hg : ∀ v : Int, v < 0 → g v = 0) (hz : zS n g ≤ 2 ^ n) (hN : NoiS H w bx bm bp g n) (hL : Lay w) :
 Calls Tryz.prog 31 #[.pointer (some ⟨bx, 0, none⟩), .int .i64 most] w fun e w' => e = .returned (.string (dyB (cmC g n most) n)) ∧ NoiS H w' bx bm bp g n ∧ w.grownBy w' (some bm) := by
 have PP : ∀ (V : World) (i : Nat), i ≤ n → Lay V → Hid (Calls Tryz.prog 32 #[.string (dyB (cmS g i) n), .string (dyB (g (i : Int)) n)] V fun e w' => e = .returned (.string (dyB (cmS g (i + 1)) n)) ∧ Below V.heap.size V w') := fun V i hi hV => by
  have h1 := dyB_size (m := n) (cmS_le hg hz (show i ≤ n + 1 by omega)) (by omega)
  have h2 := dyB_size (m := n) (g_le hg hz (show ((i : Nat) : Int) ≤ n by omega)) (by omega)
  have := fd_plus V (dyB (cmS g i) n) (dyB (g (i : Int)) n) (by omega) (by omega) hV
  rw [cm_plus hg hz hi (by omega)] at this
  exact this
 obtain ⟨J, hJ⟩ : ∃ J : Nat, (max 0 (min most ((n : Int) + 1))).toNat = J := ⟨_, rfl⟩
 have hJ1 : J ≤ n + 1 := by omega
 have eJ : max 0 (min most ((n : Int) + 1)) = (J : Int) := by omega
 rw [cmC_at, hJ]
 have HJ1 := hid hJ1; have EJ := hid eJ; have HL := hid hL; have HX := hid hN.x; have HP := hid hN.p; have HNN := hid hn
 have EJ2 : Hid (max 0 (min most ((n + 1 : Nat) : Int)) = (J : Int)) := eJ
 have b1 : (0 : Int) ≤ (J : Int) := by omega
 have b2 : (J : Int) < ((n + 2 : Nat) : Int) := by omega
 have b2' : (J : Int) < (n : Int) + 1 + 1 := by omega
 have wfk : (Lit.int .i64 ((n + 1 : Nat) : Int)).wf = true := WalkArith.wf_i64 ⟨by omega, by omega⟩
 have WFK := hid wfk
 have r0 := HX.out.cell 0
 have r1 := HX.out.cell 1
 simp at r0 r1
 rcases hN.m with hm | ⟨gs, cs, hm, hrow, hne⟩
 ·have hlk : (Instr.lookup 61 (.map (some bm)) (.int .i64 ((n : Int) + 1)) true).run Tryz.prog w = .ok (.tuple #[.slice none 0 0, .bool false]) w := sum_look0 hm wfk
  have HM := hid hm
  obtain ⟨i0, hi, hz0, hz1, hz2⟩ := info_parts info_num
  clear hJ hJ1 eJ hL hN hm wfk hg hz b1 b2 b2'
  have wn32 : (n : Int) ≤ 32 := by omega
  clear hn
  have B1 : Hid (Below w.heap.size w (w.alloc (.cells #[.string ⟨#[48]⟩] 22))) := (Below.refl _ _).alloc (Nat.le_refl _) _
  have r2 := (HX.out.call B1.out).cell 0
  have r3 := (HX.out.call B1.out).cell 1
  simp only [List.getElem?_toArray, List.getElem?_cons_zero, List.getElem?_cons_succ] at r2 r3
  go_enter Tryz.func31, Tryz.ntmps31
  go_wp2_with fail
  have O1 : Hid ((w.alloc (.cells #[.string ⟨#[48]⟩] 22)).ownsRow w.heap.size 22 1 (.slice (some ⟨w.heap.size, 0, none⟩) 1 1) 1 (strs (cmL g n 0))) := by
   show World.ownsRow _ _ _ _ _ _ _
   rw [cmL_zero]
   exact owns_one (Blk.new w #[.string ⟨#[48]⟩] 22)
  clear r0 r1 r2 r3 hlk
  go_loopw [6, 8, 9, 32] (fun s6 s8 s9 s32 wr => ∃ i : Nat, s32 = .int .i64 (i : Nat) ∧ i ≤ n + 1 ∧ Hid (wr.ownsRow w.heap.size 22 1 s6 (i + 1) (strs (cmL g n i))) ∧ Hid (Below w.heap.size w wr)) (fun s6 s8 s9 s32 wr => n + 1 - (intOf s32).toNat)
  case atStart => exact ⟨0, rfl, Nat.zero_le _, O1, B1⟩
  case round =>
   obtain ⟨i, rfl, hi, hO, hB⟩ := hrel
   obtain ⟨gl, cl, rfl⟩ := ownsRow_succ hO.out
   by_cases hlt : i < n + 1
   ·have d1 : wr.cell? ⟨bp, i, none⟩ = some (.string (dyB (g (i : Int)) n)) := by
     rw [(HP.out.call hB.out).cell, List.getElem?_toArray]
     exact strs_get (prT_get (by omega))
    obtain ⟨o1, o2, o3, o4, -, -, -⟩ := own_slot hO.out
    have d2 := o4 i _ (strs_get (cmL_get (g := g) (n := n) (Nat.le_refl i)))
    have PPi := fun V hV => PP V i (by omega) hV
    have HSU := hid (cmL_succ g n i)
    obtain ⟨S, hS⟩ : ∃ S, dyB (cmS g i) n = S := ⟨_, rfl⟩
    obtain ⟨T, hT⟩ : ∃ S, dyB (g (i : Int)) n = S := ⟨_, rfl⟩
    obtain ⟨U, hU⟩ : ∃ S, dyB (cmS g (i + 1)) n = S := ⟨_, rfl⟩
    rw [hT] at d1
    rw [hS] at d2
    rw [hS, hT, hU] at PPi
    rw [hU] at HSU
    have b3 : (0 : Int) ≤ (i : Int) := by omega
    have b4 : (i : Int) < (n : Int) + 1 := by omega
    have b5 : (i : Int) < (i : Int) + 1 := by omega
    have b6 : (i : Int) < ((i + 1 : Nat) : Int) := by omega
    have wi : IntKind.i64.wrap ((i : Int) + 1) = ((i + 1 : Nat) : Int) := by rw [IntWalk.i64_in _ ⟨by omega, by omega⟩]; omega
    have O1b := hid o1
    clear hS hT hU o1 o2 o3 o4 hi hlt
    go_wp2_with fail
    refine (PPi _ (HL.out.call hB.out)).out.mono ?_; rintro e w2 ⟨rfl, hb2⟩
    have y2 := hid (bnext hB.out hb2)
    have O2 := hid (owns_call hO.out hb2)
    clear hb2 d1 d2
    go_wp2_with (at_builtin; refine wpList_append_own _ rfl _ _ 60 rfl w.heap.size 22 i0 (.string ⟨#[]⟩) 1 16 Tryz.underlying60 hi hz0 hz1 hz2 rfl (by decide) _ (i + 1) _ rfl (O2.out.alloc _) ⟨w2.heap.size, 0, none⟩ 1 1 [.string U] rfl rfl (cell_one_new w2 (.string U) 22) (by simp [Value.oneCell']) (by unfold maxLen; omega) (by omega) (by have := y2.out.size; simp; omega) ?_; intro v' w3 hown3 hgrow3 _)
    have hO3 := hid (show w3.ownsRow w.heap.size 22 1 v' (i + 1 + 1) (strs (cmL g n (i + 1))) by rw [HSU.out, strs_append]; exact hown3)
    have hB3 : Hid (Below w.heap.size w w3) := by
     refine (y2.out.alloc y2.out.size _).trans ⟨hgrow3.os, hgrow3.tape, hgrow3.output, hgrow3.size, fun k' hk' => hgrow3.block k' (by have := y2.out.size; simp; omega) (fun e => ?_)⟩
     have : k' = gl := by injection e
     have := O1b.out
     omega
    clear hown3 hgrow3
    go_wp2_with fail
    go_roundw
    case rel => exact ⟨i + 1, by go_num, by omega, hO3, hB3⟩
    case measure => simp [intOf] <;> omega
   ·obtain rfl : i = n + 1 := by omega
    obtain ⟨o1, o2, o3, o4, -, o6, -⟩ := own_slot hO.out
    have d2 := o4 J _ (strs_get (cmL_get (g := g) (n := n) (i := n + 1) HJ1.out))
    have HR := hid (Row.of_owns hO.out)
    have M1 := hid (HM.out.kept (below_grown hB.out none) (by simp))
    have hbm := HM.out.lt
    have hne : gl ≠ bm := by omega
    have r2 := (HX.out.call hB.out).cell 0
    have r3 := (HX.out.call hB.out).cell 1
    simp at r2 r3
    have q9 : decide ((n : Int) + 1 < (n : Int) + 1) = false := by simp
    have HNE := hid hne; have HGL := hid o1; have D2 := hid d2
    clear hlt hi o1 o2 o3 o4 o6 hbm hne d2
    go_wp2_with (at_mapUpdate; refine wpList_mapUpdate_own _ rfl _ _ _ 61 rfl 3 60 (int_keyed Tryz.underlying3) Tryz.underlying61 _ bm 0 _ rfl M1.out (by unfold maxLen; omega) _ _ (.int .i64 ((n + 1 : Nat) : Int)) rfl rfl (keyOf_int_mk Tryz.underlying3 WFK.out) (sumD gl 0 (n + 2) cl) [] rfl ?_; intro w4 hown4 hgrow4
                 have d4 := hgrow4.cell D2.out (by intro e; injection e with e; exact HNE.out (by first | exact e | exact e.symm | omega))
                 have eJ := EJ.out
                 have b1 : (0 : Int) ≤ (J : Int) := by omega
                 have b2 : (J : Int) < (n : Int) + 1 + 1 := by have := HJ1.out; omega
                 have b3 : (J : Int) < ((n + 1 + 1 : Nat) : Int) := by have := HJ1.out; omega
                 have HG4 := hid hgrow4; have HO4 := hid hown4
                 clear hgrow4 hown4)
    go_ret
    have hrow : ∀ r, some bm = some r → ∃ o : Obj, wr.heap[r]? = some o ∧ o.isCells = false := fun r e => by
     injection e with e
     subst e
     obtain ⟨es, ck, h, -⟩ := M1.out
     exact ⟨_, h, rfl⟩
    refine ⟨rfl, ⟨(HX.out.call hB.out).kept HG4.out hrow, (HP.out.call hB.out).kept HG4.out hrow, .inr ⟨gl, cl, HO4.out, own_base (hO.out.kept HG4.out (.inr fun e => HNE.out (by injection e))) (Nat.zero_le _), HNE.out⟩⟩, ?_⟩
    exact ⟨HG4.out.os.trans hB.out.os, HG4.out.tape.trans hB.out.tape, HG4.out.output.trans hB.out.output, Nat.le_trans hB.out.size HG4.out.size, fun k hk hne => (HG4.out.block k (Nat.lt_of_lt_of_le hk hB.out.size) hne).trans (hB.out.block k hk)⟩
 ·have hlk : (Instr.lookup 61 (.map (some bm)) (.int .i64 ((n : Int) + 1)) true).run Tryz.prog w = .ok (.tuple #[.slice (some ⟨gs, 0, none⟩) (n + 2) cs, .bool true]) w := sum_look1 hm wfk
  obtain ⟨a', c', e, k1, k2, k3⟩ := (Row.of_owns hrow).openS
  have HM := hid hm; have HROW := hid hrow; have HNE := hid hne
  obtain ⟨gr, orr, er, hgr, hcr⟩ := k3 J _ (cmL_get hJ1)
  simp only [Value.slice.injEq] at e
  obtain ⟨rfl, -, rfl⟩ := e
  simp only [Option.some.injEq, Addr.mk.injEq] at er
  obtain ⟨rfl, rfl, -⟩ := er
  rw [Nat.zero_add] at hcr
  obtain ⟨sJ, hsJ⟩ : ∃ s, dyB (cmS g J) n = s := ⟨_, rfl⟩
  rw [hsJ] at hcr ⊢
  rw [cmL_length] at k1
  clear hJ hJ1 hL hm wfk hg hz hn PP k3 hsJ hrow hne
  go_enter Tryz.func31, Tryz.ntmps31
  go_wp2_with fail
  go_ret
  exact ⟨rfl, ⟨HX.out, HP.out, .inr ⟨_, _, HM.out, HROW.out, HNE.out⟩⟩, ⟨rfl, rfl, rfl, Nat.le_refl _, fun _ _ _ => rfl⟩⟩
end Go.Proofs.YtckihjfkafdncaaGreatDoor
namespace Go.Proofs.YtckihjfkafdncaaGreatDoor
open Go.RowKit
open Go.Shelf
theorem own_setK {W : World} {base : Nat} {e : TypeId} {k g n cap : Nat} {xs : List Value} (h : W.ownsRow base e k (.slice (some ⟨g, 0, none⟩) n cap) n xs) (i : Nat) (x : Value) : (W.setCell ⟨g, i, none⟩ x).ownsRow base e k (.slice (some ⟨g, 0, none⟩) n cap) n (xs.set i x) := by
 rcases h.2 with ⟨e1, _⟩ | ⟨g', cap', cur, e1, hb, hg, h1, h2, h3, h4⟩
 ·simp at e1
 ·simp at e1
  obtain ⟨rfl, rfl⟩ := e1
  refine ⟨by rw [List.length_set]; exact h.1, .inr ⟨g, cap, cur.setIfInBounds i x, rfl, hb, Blk.set hg i x, h1, h2, by simpa using h3, ?_⟩⟩
  rw [Array.toList_setIfInBounds, List.take_set, h4]
theorem own_slotK {W : World} {base : Nat} {e : TypeId} {k g n cap : Nat} {xs : List Value} (h : W.ownsRow base e k (.slice (some ⟨g, 0, none⟩) n cap) n xs) : base ≤ g ∧ g < W.heap.size ∧ (∀ i, W.frozen? ⟨g, i, none⟩ = false) ∧ (∀ (i : Nat) (x : Value), xs[i]? = some x → W.cell? ⟨g, i, none⟩ = some x) ∧ cap ≤ 9223372036854775807 ∧ n ≤ cap := by
 have hh := h
 rcases h.2 with ⟨e1, _⟩ | ⟨g', cap', cur, e1, hb, hg, h1, h2, h3, h4⟩
 ·simp at e1
 ·simp at e1
  obtain ⟨rfl, rfl⟩ := e1
  refine ⟨hb, (Array.getElem?_eq_some_iff.1 hg).1, fun i => Blk.free hg i, fun i x hx => ?_, by unfold maxLen at h2; omega, h1⟩
  have := hh.cells rfl i x hx
  rw [Addr.add_lit, Nat.zero_add] at this
  exact this
theorem own_cutK {W : World} {base : Nat} {e : TypeId} {k g n m cap : Nat} {xs : List Value} (h : W.ownsRow base e k (.slice (some ⟨g, 0, none⟩) n cap) n xs) (hm : m ≤ n) : W.ownsRow base e k (.slice (some ⟨g, 0, none⟩) m cap) m (xs.take (m * k)) := by
 have hl := h.1
 rcases h.2 with ⟨e1, _⟩ | ⟨g', cap', cur, e1, hb, hg, h1, h2, h3, h4⟩
 ·simp at e1
 ·simp at e1
  obtain ⟨rfl, rfl⟩ := e1
  have hk : m * k ≤ n * k := Nat.mul_le_mul_right k hm
  refine ⟨by rw [List.length_take, hl]; omega, .inr ⟨g, cap, cur, rfl, hb, hg, by omega, h2, h3, ?_⟩⟩
  rw [← h4, List.take_take, Nat.min_eq_left hk]
theorem own_setCells {base : Nat} {e : TypeId} {k g n cap : Nat} : ∀ (vs : List Value) (o : Nat) {W : World} {xs : List Value}, W.ownsRow base e k (.slice (some ⟨g, 0, none⟩) n cap) n xs → ∃ ys, (W.setCells g o vs).ownsRow base e k (.slice (some ⟨g, 0, none⟩) n cap) n ys ∧ ys.take o = xs.take o
 | [], o, W, xs, h => ⟨xs, h, rfl⟩
 | v :: r, o, W, xs, h => by
  obtain ⟨ys, h1, h2⟩ := own_setCells r (o + 1) (own_setK h o v)
  refine ⟨ys, h1, ?_⟩
  have h3 := congrArg (List.take o) h2
  rw [List.take_take, List.take_take, Nat.min_eq_left (by omega)] at h3
  rw [h3, List.take_set, List.set_eq_of_length_le (by rw [List.length_take]; omega)]
theorem below_setCells {base g : Nat} (hb : base ≤ g) : ∀ (vs : List Value) (o : Nat) {w W : World}, Below base w W → Below base w (W.setCells g o vs)
 | [], _, _, _, h => h
 | v :: r, o, w, W, h => below_setCells hb r (o + 1) (h.setCell hb v)
theorem run_clear2 (w : World) (t e ty : TypeId) (z : Value) (x y : Value) (ht : Tryz.prog.underlying t = some (.slice e)) (hv : ∀ w, (zeroValue e).run Tryz.prog w = .ok z w) (hz : z.cells = #[x, y]) (h1 : x.oneCell' = true) (h2 : y.oneCell' = true) (b o n c : Nat) (hn : 0 < n)
 (hc : ∀ j, j < n * 2 → (w.cell? ⟨b, o + j, none⟩).isSome = true) (hf : ∀ j, j < n * 2 → w.frozen? ⟨b, o + j, none⟩ = false) :
 ∃ vs, (Builtin.clear_ #[t] ty #[.slice (some ⟨b, o, none⟩) n c]).run Tryz.prog w = .ok (.tuple #[]) (w.setCells b o vs) := by
 obtain ⟨vs, hvs⟩ : ∃ vs, (Builtin.zeroCells z.cells n).toList = vs := ⟨_, rfl⟩
 have hlen : vs.length = n * 2 := by rw [← hvs, hz]; simp [Builtin.zeroCells]
 have hone : ∀ v ∈ vs, v.oneCell' = true := by
  intro v hv'
  rw [← hvs, hz] at hv'
  simp [Builtin.zeroCells] at hv'
  obtain ⟨i, hi, rfl⟩ := hv'
  rcases Nat.mod_two_eq_zero_or_one i with h | h <;> simp [h, h1, h2]
 have hst := run_storeCells_cells (P := Tryz.prog) b o vs 0 w (by rw [hlen]; simpa using hc) (by rw [hlen]; simpa using hf) hone
 simp only [Nat.add_zero] at hst
 refine ⟨vs, ?_⟩
 obtain ⟨m, rfl⟩ : ∃ m, n = m + 1 := ⟨n - 1, by omega⟩
 simp [Builtin.clear_, run_underlying ht, hv, hvs, hst]
theorem zero_mass (w : World) : (zeroValue 39).run Tryz.prog w = .ok (.agg #[.string ⟨#[]⟩, .string ⟨#[]⟩]) w := by kernel_rfl
def ixM (p : ByteArray × ByteArray → Bool) (l : List (ByteArray × ByteArray)) : Int := if l.any p = true then (l.findIdx p : Nat) else -1
theorem s_IndexFuncM (w : World) (v : Value) (l : List (ByteArray × ByteArray)) (F : Nat) (p : ByteArray × ByteArray → Bool) (hv : MRow w v l) (hen : ∀ args w, (callFunc F args).run Tryz.prog w = .ok (.enter F args) w)
 (hF : ∀ W (x : ByteArray × ByteArray), Calls Tryz.prog F #[.agg #[.string x.1, .string x.2]] W fun e w' => e = .returned (.bool (p x)) ∧ Below W.heap.size W w') :
 Calls Tryz.prog 86 #[v, .func (.func F) #[] #[]] w fun e w' => e = .returned (.int .i64 (ixM p l)) ∧ Below w.heap.size w w' := by
 obtain ⟨a, c, rfl, q1, q2, q3⟩ := hv.ex
 obtain ⟨n, hn⟩ : ∃ n, l.length = n := ⟨_, rfl⟩
 rw [hn] at q1 ⊢
 have HN := hid hn; have Q3 := hid q3; have HF := hid hF
 clear hv q3 hn hF
 go_enter Tryz.func86, Tryz.ntmps86
 go_wp2_with fail
 go_loopw [8] (fun ii wr => ∃ i : Nat, ii = .int .i64 i ∧ i ≤ n ∧ Hid (∀ j x, j < i → l[j]? = some x → p x = false) ∧ Hid (Below w.heap.size w wr)) (fun ii wr => n - (intOf ii).toNat)
 case atStart => exact ⟨0, rfl, Nat.zero_le _, fun j x hj => absurd hj (by omega), Below.refl _ _⟩
 case round =>
  obtain ⟨i, rfl, hi, hI, hB⟩ := hrel
  by_cases hlt : i < n
  ·obtain ⟨x, hx⟩ : ∃ x, l[i]? = some x := ⟨_, List.getElem?_eq_getElem (by rw [HN.out]; exact hlt)⟩
   obtain ⟨g, o, rfl, hg, m1, m2⟩ := Q3.out i x hx
   rw [Nat.mul_comm 2] at m1 m2
   have r1 := (hB.out.cell (p := ⟨g, o + i * 2, none⟩) hg).trans m1
   have r2 := (hB.out.cell (p := ⟨g, o + i * 2 + 1, none⟩) hg).trans m2
   have HX := hid hx
   have b1 : (0 : Int) ≤ (i : Int) := by omega
   have b2 : (i : Int) < (n : Int) := by omega
   have wi : IntKind.i64.wrap ((i : Int) + 1) = ((i + 1 : Nat) : Int) := by rw [IntWalk.i64_in _ ⟨by omega, by omega⟩]; omega
   obtain ⟨z, hz⟩ : ∃ z, p x = z := ⟨_, rfl⟩
   have C := fun W => hid (hz ▸ HF.out W x)
   have HZ := hid hz
   clear hx hz m1 m2 hg
   go_wp2_with fail
   refine (C _).out.mono ?_; rintro e w1 ⟨rfl, hb1⟩
   have y1 := hid (bnext hB.out hb1)
   clear hb1
   cases z
   ·go_wp2_with fail
    go_roundw
    case rel => exact ⟨i + 1, by go_num, by omega, fun j y hj hy => by
     rcases Nat.lt_or_ge j i with h | h
     ·exact hI.out j y h hy
     ·obtain rfl : j = i := by omega
      rw [HX.out] at hy; cases hy; exact HZ.out, y1⟩
    case measure => simp [intOf] <;> omega
   ·have hA : l.any p = true := List.any_eq_true.2 ⟨x, List.mem_of_getElem? HX.out, HZ.out⟩
    have hfi : l.findIdx p = i := by
     have hil : i < l.length := by rw [HN.out]; exact hlt
     rw [List.findIdx_eq hil]
     refine ⟨?_, fun j hj => ?_⟩
     ·have := HX.out; rw [List.getElem?_eq_getElem hil] at this; rw [Option.some.inj this]; exact HZ.out
     ·exact hI.out j _ hj (List.getElem?_eq_getElem (Nat.lt_trans hj hil))
    have HE := hid (show ixM p l = (i : Int) from by rw [ixM, if_pos hA, hfi])
    clear hA hfi
    go_wp2_with fail
    go_ret
    exact ⟨by rw [HE.out]; rfl, y1.out⟩
  ·obtain rfl : i = n := by omega
   have hA : ¬ l.any p = true := fun h => by
    obtain ⟨x, hx, hp⟩ := List.any_eq_true.1 h
    obtain ⟨j, hj⟩ := List.getElem?_of_mem hx
    have := hI.out j x (by rw [← HN.out]; exact (List.getElem?_eq_some_iff.1 hj).1) hj
    rw [this] at hp; cases hp
   have HE := hid (show ixM p l = -1 from by rw [ixM, if_neg hA])
   have q0 : decide ((i : Int) < (i : Int)) = false := by simp
   clear hA hlt
   go_wp2_with fail
   go_ret
   exact ⟨by rw [HE.out]; rfl, hB.out⟩
structure DelI (del : ByteArray × ByteArray → Bool) (L D : List (ByteArray × ByteArray)) (i j : Nat) : Prop where
 len : D.length = L.length
 lt : i < j
 le : j ≤ L.length
 front : D.take i = (L.take j).filter fun x => !del x
 back : D.drop j = L.drop j
theorem DelI.start {del : ByteArray × ByteArray → Bool} {L : List (ByteArray × ByteArray)} (h : L.any del = true) : DelI del L L (L.findIdx del) (L.findIdx del + 1) := by
 have hk : L.findIdx del < L.length := List.findIdx_lt_length.2 (List.any_eq_true.1 h)
 have hd : del L[L.findIdx del] = true := List.findIdx_getElem
 refine ⟨rfl, Nat.lt_succ_self _, hk, ?_, rfl⟩
 rw [List.take_add_one, List.getElem?_eq_getElem hk, List.filter_append]
 have e1 : List.filter (fun x => !del x) (some L[L.findIdx del]).toList = [] := by simp [hd]
 rw [e1, List.append_nil]
 symm
 rw [List.filter_eq_self]
 intro x hx
 obtain ⟨j, hj, rfl⟩ := List.getElem_of_mem hx
 rw [List.length_take] at hj
 rw [List.getElem_take]
 have := List.not_of_lt_findIdx (p := del) (xs := L) (i := j) (by omega)
 simpa using this
theorem DelI.at_ {del : ByteArray × ByteArray → Bool} {L D : List (ByteArray × ByteArray)} {i j : Nat} (h : DelI del L D i j) {x : ByteArray × ByteArray} (hx : L[j]? = some x) : D[j]? = some x := by
 have := congrArg (fun l => l[0]?) h.back
 simp only [List.getElem?_drop, Nat.add_zero] at this
 rw [this, hx]
theorem DelI.keep {del : ByteArray × ByteArray → Bool} {L D : List (ByteArray × ByteArray)} {i j : Nat} (h : DelI del L D i j) {x : ByteArray × ByteArray} (hx : L[j]? = some x) (hd : del x = false) : DelI del L (D.set i x) (i + 1) (j + 1) := by
 have hj := (List.getElem?_eq_some_iff.1 hx).1
 have hlt := h.lt
 refine ⟨by rw [List.length_set]; exact h.len, by omega, hj, ?_, ?_⟩
 ·have e1 : L.take (j + 1) = L.take j ++ [x] := by rw [List.take_add_one, hx]; rfl
  have e2 : (D.set i x).take (i + 1) = D.take i ++ [x] := by
   rw [List.take_add_one, List.getElem?_set_self (by rw [h.len]; omega), List.take_set, List.set_eq_of_length_le (by rw [List.length_take]; omega)]; rfl
  rw [e1, e2, List.filter_append, ← h.front]
  simp [hd]
 ·rw [List.drop_set_of_lt (by omega), ← List.drop_drop, h.back, List.drop_drop]
theorem DelI.skip {del : ByteArray × ByteArray → Bool} {L D : List (ByteArray × ByteArray)} {i j : Nat} (h : DelI del L D i j) {x : ByteArray × ByteArray} (hx : L[j]? = some x) (hd : del x = true) : DelI del L D i (j + 1) := by
 have hj := (List.getElem?_eq_some_iff.1 hx).1
 have hlt := h.lt
 refine ⟨h.len, by omega, hj, ?_, ?_⟩
 ·rw [List.take_add_one, hx, List.filter_append, ← h.front]
  simp [hd]
 ·rw [← List.drop_drop, h.back, List.drop_drop]
theorem massC_set {D : List (ByteArray × ByteArray)} {i : Nat} (x : ByteArray × ByteArray) (hi : i < D.length) : ((massC D).set (i * 2) (.string x.1)).set (i * 2 + 1) (.string x.2) = massC (D.set i x) := by
 apply List.ext_getElem?
 intro k
 rw [massC_at, List.getElem?_set, List.getElem?_set]
 simp only [List.length_set, massC_length]
 by_cases h1 : i * 2 + 1 = k
 ·subst h1
  rw [if_pos rfl, if_pos (by omega), show (i * 2 + 1) / 2 = i by omega, List.getElem?_set_self hi, Option.map_some, if_neg (by omega)]
 ·rw [if_neg h1]
  by_cases h2 : i * 2 = k
  ·subst h2
   rw [if_pos rfl, if_pos (by omega), show i * 2 / 2 = i by omega, List.getElem?_set_self hi, Option.map_some, if_pos (by omega)]
  ·rw [if_neg h2, massC_at, List.getElem?_set_ne (by omega)]
theorem massC_take (D : List (ByteArray × ByteArray)) (i : Nat) : (massC D).take (i * 2) = massC (D.take i) := by
 apply List.ext_getElem?
 intro k
 rw [massC_at]
 by_cases h : k < i * 2
 ·rw [List.getElem?_take_of_lt h, massC_at, List.getElem?_take_of_lt (by omega)]
 ·rw [List.getElem?_take_eq_none (by omega), List.getElem?_take_eq_none (by omega)]; rfl
theorem s_DelM (w : World) (F : Nat) (del : ByteArray × ByteArray → Bool) (g cap base n : Nat) (L : List (ByteArray × ByteArray)) (hO : w.ownsRow base 39 2 (.slice (some ⟨g, 0, none⟩) n cap) n (massC L)) (hl : L.length = n) (hn : n ≤ 100000) (hb : base ≤ w.heap.size)
 (hen : ∀ args w, (callFunc F args).run Tryz.prog w = .ok (.enter F args) w)
 (hF : ∀ W (x : ByteArray × ByteArray), Calls Tryz.prog F #[.agg #[.string x.1, .string x.2]] W fun e w' => e = .returned (.bool (del x)) ∧ Below W.heap.size W w') :
 Calls Tryz.prog 35 #[.slice (some ⟨g, 0, none⟩) n cap, .func (.func F) #[] #[]] w fun e w' => (∃ m, m = (L.filter fun x => !del x).length ∧ e = .returned (.slice (some ⟨g, 0, none⟩) m cap) ∧ w'.ownsRow base 39 2 (.slice (some ⟨g, 0, none⟩) m cap) m (massC (L.filter fun x => !del x))) ∧ Below base w w' := by
 have PI := hid (s_IndexFuncM w _ L F del (MRow.of_owns hO) hen hF)
 have HO := hid hO
 obtain ⟨o1, o2, o3, o4, o5, o6⟩ := own_slotK hO
 have HF := hid hF; have HL := hid hl; have HB := hid hb; have HG := hid o1
 by_cases hany : L.any del = true
 ·have st := hid (DelI.start hany)
  have ei : ixM del L = (L.findIdx del : Nat) := by rw [ixM, if_pos hany]
  rw [ei] at PI
  obtain ⟨k, hk⟩ : ∃ k, L.findIdx del = k := ⟨_, rfl⟩
  rw [hk] at PI st
  have hkn : k < n := by have := st.out.le; omega
  have q0 : ((k : Int) == -1) = false := by rw [beq_eq_false_iff_ne]; omega
  have wk : IntKind.i64.wrap ((k : Int) + 1) = ((k + 1 : Nat) : Int) := by rw [IntWalk.i64_in _ ⟨by omega, by omega⟩]; omega
  clear hO hF hl hb hany ei hk o1 o2 o3 o4
  go_enter Tryz.func35, Tryz.ntmps35
  go_wp2_with fail
  refine PI.out.mono ?_; rintro e w1 ⟨rfl, hb1⟩
  have y1 := hid (hb1.mono HB.out)
  have O1 := hid (owns_call HO.out hb1)
  clear hb1
  go_wp2_with fail
  go_loopw [5, 6, 7] (fun s5 s6 s7 wr => ∃ (i j : Nat) (D : List (ByteArray × ByteArray)), s5 = .int .i64 (i : Nat) ∧ s6 = .int .i64 (j : Nat) ∧ j ≤ n ∧ i < j ∧ Hid (DelI del L D i j) ∧ Hid (wr.ownsRow base 39 2 (.slice (some ⟨g, 0, none⟩) n cap) n (massC D)) ∧ Hid (Below base w wr)) (fun s5 s6 s7 wr => n - (intOf s6).toNat)
  case atStart => exact ⟨k, k + 1, L, rfl, by go_num, by omega, by omega, st, O1, y1⟩
  case round =>
   obtain ⟨i, j, D, rfl, rfl, hj, hij, hI, hO, hBl⟩ := hrel
   obtain ⟨o1, o2, o3, o4, -, -⟩ := own_slotK hO.out
   have hDl := hI.out.len
   by_cases hlt : j < n
   ·obtain ⟨x, hx⟩ : ∃ x, L[j]? = some x := ⟨_, List.getElem?_eq_getElem (by rw [HL.out]; exact hlt)⟩
    obtain ⟨m1, m2⟩ := massC_get (hI.out.at_ hx)
    obtain ⟨y, hy⟩ : ∃ y, D[i]? = some y := ⟨_, List.getElem?_eq_getElem (by rw [hDl, HL.out]; omega)⟩
    obtain ⟨m3, m4⟩ := massC_get hy
    have r1 := o4 _ _ m1
    have r2 := o4 _ _ m2
    have r3 := o4 _ _ m3
    have r4 := o4 _ _ m4
    rw [Nat.mul_comm 2] at r1 r2 r3 r4
    have f1 := o3 (i * 2)
    have f2 := o3 (i * 2 + 1)
    have b1 : (0 : Int) ≤ (j : Int) := by omega
    have b2 : (j : Int) < (n : Int) := by omega
    have b3 : (0 : Int) ≤ (i : Int) := by omega
    have b4 : (i : Int) < (n : Int) := by omega
    have wj : IntKind.i64.wrap ((j : Int) + 1) = ((j + 1 : Nat) : Int) := by rw [IntWalk.i64_in _ ⟨by omega, by omega⟩]; omega
    have wi : IntKind.i64.wrap ((i : Int) + 1) = ((i + 1 : Nat) : Int) := by rw [IntWalk.i64_in _ ⟨by omega, by omega⟩]; omega
    obtain ⟨z, hz⟩ : ∃ z, del x = z := ⟨_, rfl⟩
    have C := fun W => hid (hz ▸ HF.out W x)
    have HX := hid hx; have HZ := hid hz
    have hset := hid (massC_set (D := D) (i := i) x (by rw [hDl, HL.out]; omega))
    have X1 := hid (Blk.new wr #[.string x.1, .string x.2] 39)
    have A1 := hid ((Below.refl wr.heap.size wr).alloc (Nat.le_refl _) (.cells #[.string x.1, .string x.2] 39))
    have O2 := hid (owns_call hO.out A1.out)
    have GL : Hid (g < wr.heap.size) := o2
    clear hx hz m1 m2 m3 m4 o4 hy
    obtain ⟨xk, xv⟩ := x
    dsimp only at *
    go_wp2_with fail
    refine (C _).out.mono ?_; rintro e w2 ⟨rfl, hb2⟩
    have hb2' := bnext A1.out hb2
    have X2 := hid (X1.out.call hb2)
    have O3 := hid (owns_call O2.out hb2)
    have B2 := hid (hBl.out.trans (hb2'.mono (by omega)))
    have z0 := X2.out.cell 0
    have z1 := X2.out.cell 1
    simp at z0 z1
    have r3 := (hb2'.cell (p := ⟨g, i * 2, none⟩) GL.out).trans r3
    have r4 := (hb2'.cell (p := ⟨g, i * 2 + 1, none⟩) GL.out).trans r4
    obtain ⟨-, -, g3, -, -, -⟩ := own_slotK O3.out
    have f1 := g3 (i * 2)
    have f2 := g3 (i * 2 + 1)
    clear hb2 hb2' r1 r2
    cases z
    ·go_wp2_with fail
     go_roundw
     case rel =>
      refine ⟨i + 1, j + 1, D.set i (xk, xv), by go_num, by go_num, by omega, by omega, hid (hI.out.keep HX.out HZ.out), ?_, hid ((B2.out.setCell o1 _).setCell o1 _)⟩
      have h5 := own_setK (own_setK O3.out (i * 2) (.string xk)) (i * 2 + 1) (.string xv)
      rw [hset.out] at h5
      exact h5
     case measure => simp [intOf] <;> omega
    ·clear f1 f2 r3 r4
     go_wp2_with fail
     go_roundw
     case rel => exact ⟨i, j + 1, D, rfl, by go_num, by omega, by omega, hid (hI.out.skip HX.out HZ.out), O3, B2⟩
     case measure => simp [intOf] <;> omega
   ·obtain rfl : j = n := by omega
    have q1 : decide ((j : Int) < (j : Int)) = false := by simp
    have b1 : (0 : Int) ≤ (i : Int) := by omega
    have b2 : (i : Int) ≤ (j : Int) := by omega
    have b3 : (j : Int) ≤ (cap : Int) := by omega
    have b4 : (i : Int) ≤ (cap : Int) := by omega
    obtain ⟨vs, hcl⟩ := run_clear2 wr 26 39 0 (.agg #[.string ⟨#[]⟩, .string ⟨#[]⟩]) (.string ⟨#[]⟩) (.string ⟨#[]⟩) Tryz.underlying26 zero_mass rfl rfl rfl g (i * 2) (j - i) (cap - i) (by omega)
     (fun k hk => by
      obtain ⟨v, hv⟩ : ∃ v, (massC D)[i * 2 + k]? = some v := ⟨_, List.getElem?_eq_getElem (by rw [massC_length, hDl, HL.out]; omega)⟩
      rw [o4 _ _ hv]; rfl)
     (fun k hk => o3 _)
    obtain ⟨ys, w3, w4⟩ := own_setCells vs (i * 2) hO.out
    have hfr := hI.out.front
    have hT : L.take j = L := List.take_of_length_le (by rw [HL.out]; exact Nat.le_refl _)
    rw [hT] at hfr
    have hcut := own_cutK w3 (m := i) (by omega)
    rw [w4, massC_take, hfr] at hcut
    have hcb := hid (below_setCells o1 vs (i * 2) hBl.out)
    have hlen : i = (L.filter fun x => !del x).length := by rw [← hfr, List.length_take, hDl, HL.out]; omega
    have HC := hid hcut; have HLN := hid hlen
    clear hlt o4 w3 w4 hfr hcut hlen hT
    go_wp2_with fail
    go_ret
    refine ⟨⟨i, HLN.out, rfl, HC.out⟩, hcb.out⟩
 ·have hk : (L.filter fun x => !del x) = L := List.filter_eq_self.2 fun x hx => by
   cases hd : del x
   ·rfl
   ·exact absurd (List.any_eq_true.2 ⟨x, hx, hd⟩) hany
  have ei : ixM del L = -1 := by rw [ixM, if_neg hany]
  rw [ei] at PI
  rw [hk]
  have q0 : ((-1 : Int) == -1) = true := rfl
  clear hO hF hb hany ei hk o1 o2 o3 o4
  go_enter Tryz.func35, Tryz.ntmps35
  go_wp2_with fail
  refine PI.out.mono ?_; rintro e w1 ⟨rfl, hb1⟩
  go_wp2_with fail
  go_ret
  exact ⟨⟨n, HL.out.symm, rfl, owns_call HO.out hb1⟩, hb1.mono HB.out⟩
open Go.Lib (decDigits nDigits)
def flE (c : List Int) (a : ByteArray) (n : Int) : Int := if qnE c a ≠ 0 then qnE c a else if n < 0 ∨ 32 < n then 2 else if 256 < n * (c.length : Nat) then 5 else 0
def flR (c : List Int) (a : ByteArray) (n : Int) : List (ByteArray × ByteArray) := if flE c a n = 0 then sortM (fkP (gV (bN (cW a)) (bN (qD a)) false n.toNat) n.toNat c) else []
theorem fd_isZ (w : World) (x : ByteArray × ByteArray) : Calls Tryz.prog 36 #[.agg #[.string x.1, .string x.2]] w fun e w' => e = .returned (.bool (!notZ x)) ∧ Below w.heap.size w w' := by
 obtain ⟨k, v⟩ := x
 have X1 := hid (Blk.new w #[.string k, .string v] 39)
 have z1 := X1.out.cell 1
 simp at z1
 dsimp only
 by_cases h : v = ⟨#[48]⟩
 ·subst h
  have e1 : (!notZ (k, (⟨#[48]⟩ : ByteArray))) = true := by simp [notZ]
  rw [e1]
  go_enter Tryz.func36, Tryz.ntmps36
  go_wp2_with fail
  go_ret
  exact ⟨rfl, (Below.refl _ _).alloc (Nat.le_refl _) _⟩
 ·have e1 : (!notZ (k, v)) = false := by simp [notZ, h]
  rw [e1]
  have t1 : (v.toList == [48]) = false := ne_lit h
  clear h e1
  go_enter Tryz.func36, Tryz.ntmps36
  go_wp2_with fail
  go_ret
  exact ⟨rfl, (Below.refl _ _).alloc (Nat.le_refl _) _⟩
theorem own_block {W : World} {base : Nat} {e : TypeId} {k : Nat} {v : Value} {n : Nat} {xs : List Value} (h : W.ownsRow base e k v n xs) : ∀ r, v.ownBlock = some r → ∃ cur, W.heap[r]? = some (.cells cur e (0, 0)) := by
 intro r hr
 rcases h.2 with ⟨rfl, _⟩ | ⟨g, cap, cur, rfl, _, hg, _⟩
 ·simp [Value.ownBlock] at hr
 ·simp only [Value.ownBlock, Option.some.injEq] at hr
  subst hr
  exact ⟨_, hg⟩
structure LwI (w W1 wr : World) (bx bm bp : Nat) (g : Int → Nat) (n : Nat) (d : Value) (i : Nat) (L : List (ByteArray × ByteArray)) : Prop where
 noi : NoiS Unit wr bx bm bp g n
 own : wr.ownsRow W1.heap.size 39 2 d i (massC L)
 bel : Below w.heap.size w wr
 siz : W1.heap.size ≤ wr.heap.size
theorem LwI.call {w W1 wr wr' : World} {bx bm bp : Nat} {g : Int → Nat} {n : Nat} {d : Value} {i : Nat} {L : List (ByteArray × ByteArray)} (h : LwI w W1 wr bx bm bp g n d i L) (hb : Below wr.heap.size wr wr') : LwI w W1 wr' bx bm bp g n d i L :=
 ⟨h.noi.call hb, owns_call h.own hb, bnext h.bel hb, Nat.le_trans h.siz hb.size⟩
theorem LwI.grow {w W1 wr wr' : World} {bx bm bp : Nat} {g : Int → Nat} {n : Nat} {d : Value} {i : Nat} {L : List (ByteArray × ByteArray)} (h : LwI w W1 wr bx bm bp g n d i L) (hn : NoiS Unit wr' bx bm bp g n) (hg : wr.grownBy wr' (some bm)) (h1 : w.heap.size ≤ bm) (h2 : bm < W1.heap.size) : LwI w W1 wr' bx bm bp g n d i L := by
 refine ⟨hn, h.own.kept hg ?_, ⟨hg.os.trans h.bel.os, hg.tape.trans h.bel.tape, hg.output.trans h.bel.output, Nat.le_trans h.bel.size hg.size, fun k hk => ?_⟩, Nat.le_trans h.siz hg.size⟩
 ·refine .inr fun e => ?_
  have := (h.own.lt bm e).1
  omega
 ·exact (hg.block k (Nat.lt_of_lt_of_le hk h.bel.size) (fun e => by injection e with e; omega)).trans (h.bel.block k hk)
structure LwT (g : Int → Nat) (n : Nat) (c : List Int) (PF : Nat → Nat → Nat → ByteArray) (CT : Int → ByteArray) (TF : Nat → Nat → ByteArray) (FT RF : Nat → ByteArray) : Prop where
 start : ∀ i v, v ≤ n → (prT g n)[v]? = some (PF i v 0)
 same : ∀ i v, PF i v (i + 1) = PF i v i
 times : ∀ (V : World) i v k, i < c.length → v ≤ n → k < c.length → k ≠ i → Lay V → Calls Tryz.prog 30 #[.string (PF i v k), .string (CT (if k < i then c.getD i 0 + v - c.getD k 0 else c.getD i 0 + v - c.getD k 0 + 1))] V fun e w' => e = .returned (.string (PF i v (k + 1))) ∧ Below V.heap.size V w'
 below : ∀ (V : World) bx bm bp (most : Int), NoiS Unit V bx bm bp g n → Lay V → Calls Tryz.prog 31 #[.pointer (some ⟨bx, 0, none⟩), .int .i64 most] V fun e w' => e = .returned (.string (CT most)) ∧ NoiS Unit w' bx bm bp g n ∧ V.grownBy w' (some bm)
 plus : ∀ (V : World) i v, i < c.length → v ≤ n → Lay V → Calls Tryz.prog 32 #[.string (TF i v), .string (PF i v c.length)] V fun e w' => e = .returned (.string (TF i (v + 1))) ∧ Below V.heap.size V w'
 zero : ∀ i, TF i 0 = ⟨#[48]⟩
 tend : ∀ i, TF i (n + 1) = FT i
 less : ∀ (V : World) i, i < c.length → Lay V → Calls Tryz.prog 34 #[.string (RF i), .string (FT i)] V fun e w' => e = .returned (.string (RF (i + 1))) ∧ Below V.heap.size V w'
 one : RF 0 = ⟨#[49]⟩
 next : ∀ i, fkAll g n c (i + 1) = fkAll g n c i ++ [(numB i, FT i)]
 all : fkW g n c = fkAll g n c c.length ++ [(lateB, RF c.length)]
theorem dy_sz (x m : Nat) : (dyB x m).size ≤ 1000000 := by
 have := outB_size (qmk false x (2 ^ m))
 show (outB _).size ≤ _
 omega
theorem lw_texts {g : Int → Nat} {n : Nat} {c : List Int} (hn : n ≤ 32) (hg : ∀ v : Int, v < 0 → g v = 0) (hz : zS n g ≤ 2 ^ n) (hm : n * c.length ≤ 1000) :
 LwT g n c (fun i v k => dyB (fkN g n (c.getD i 0) v i c k) (n * bI i k)) (fun m => dyB (cmC g n m) n) (fun i v => dyB (fkS g n c i v) (n * c.length)) (fun i => dyB (fkT g n c i) (n * c.length)) (fun i => dyB (fkR g n c i) (n * c.length)) where
 start i v hv := by
  rw [prT_get hv]
  show some (dyB (g v) n) = some (dyB (g v) (n * bI i 0))
  rw [show bI i 0 = 1 from by unfold bI; rw [if_pos (Nat.zero_le _)], Nat.mul_one]
 same i v := by
  show dyB (fkN _ _ _ _ _ _ (i + 1)) _ = dyB (fkN _ _ _ _ _ _ i) _
  rw [fkN, if_pos rfl, bI_same]
 times V i v k hi hv hk hne hL := by
  have h := fd_times V (dyB (fkN g n (c.getD i 0) v i c k) (n * bI i k)) (dyB (cmC g n (if k < i then c.getD i 0 + v - c.getD k 0 else c.getD i 0 + v - c.getD k 0 + 1)) n) (dy_sz _ _) (dy_sz _ _) hL
  rw [fk_times hg hz (by omega) hi hk hne hm] at h
  exact h
 below V bx bm bp most hN hL := fd_below V bx bm bp n g most hn hg hz hN hL
 plus V i v hi hv hL := by
  have h := fd_plus V (dyB (fkS g n c i v) (n * c.length)) (dyB (fkN g n (c.getD i 0) v i c c.length) (n * bI i c.length)) (dy_sz _ _) (dy_sz _ _) hL
  rw [fk_plus hg hz hi hv hm] at h
  exact h
 zero i := dy_zero _
 tend i := by show dyB (fkS g n c i (n + 1)) _ = _; rw [fkS_end]
 less V i hi hL := by
  have h := fd_less V (dyB (fkR g n c i) (n * c.length)) (dyB (fkT g n c i) (n * c.length)) (dy_sz _ _) (dy_sz _ _) hL
  rw [fk_less hg hz hi hm] at h
  exact h
 one := by
  show dyB (2 ^ (n * c.length) - 0) _ = _
  rw [Nat.sub_zero, dy_full]
 next i := fkAll_succ g n c i
 all := rfl
end Go.Proofs.YtckihjfkafdncaaGreatDoor
namespace Go.Proofs.YtckihjfkafdncaaGreatDoor
open Go.RowKit
theorem owned_below {w W w3 : World} {t : TypeId} {z : Nat} {v : Value} {m : Nat} {vs : List Value} (h : W.ownsRow w.heap.size t z v m vs) (h0 : Below w.heap.size w W) (hg : W.grownBy w3 v.ownBlock) : Below w.heap.size w w3 := by
 refine h0.trans ⟨hg.os, hg.tape, hg.output, hg.size, fun j hj => hg.block j (Nat.lt_of_lt_of_le hj h0.size) fun e => ?_⟩
 have := (h.lt j e.symm).1
 omega
open Go.Shelf
theorem snoc_get {us : List Int} {t x : Int} {i : Nat} (h : (us ++ [t])[i]? = some x) : us[i]? = some x ∨ (i = us.length ∧ x = t) := by
 by_cases hi : i < us.length
 ·rw [List.getElem?_append_left hi] at h; exact .inl h
 ·rw [List.getElem?_append_right (by omega)] at h
  have : i - us.length = 0 := by
   rcases Nat.eq_zero_or_pos (i - us.length) with h0 | h0
   ·exact h0
   ·rw [List.getElem?_eq_none (by simp; omega)] at h; cases h
  rw [this] at h
  simp at h
  exact .inr ⟨by omega, h.symm⟩
theorem ownsRow_keep {w w' : World} {base : Nat} {e : TypeId} {size : Nat} {v : Value} {n : Nat} {xs : List Value} (h : w.ownsRow base e size v n xs) (hb : ∀ g, v.ownBlock = some g → w'.heap[g]? = w.heap[g]?) : w'.ownsRow base e size v n xs := by
 refine ⟨h.1, ?_⟩
 rcases h.2 with h0 | ⟨g, cap, cur, rfl, h1, h2, h3⟩
 ·exact .inl h0
 ·exact .inr ⟨g, cap, cur, rfl, h1, (hb g rfl).trans h2, h3⟩
structure TwoZ (B : Nat) (W : World) (v1 v2 : Value) (ts os : List Int) : Prop where
 o1 : W.ownsRow B 3 1 v1 ts.length (zs ts)
 o2 : W.ownsRow B 3 1 v2 os.length (zs os)
 ne : ∀ g, v1.ownBlock = some g → v2.ownBlock ≠ some g
theorem TwoZ.nil (B : Nat) (W : World) : TwoZ B W (.slice none 0 0) (.slice none 0 0) [] [] := ⟨World.ownsRow_nil _ _ _ _, World.ownsRow_nil _ _ _ _, fun g h => by simp [Value.ownBlock] at h⟩
theorem TwoZ.below {B : Nat} {W W' : World} {v1 v2 : Value} {ts os : List Int} (h : TwoZ B W v1 v2 ts os) (hb : Below W.heap.size W W') : TwoZ B W' v1 v2 ts os := ⟨owns_call h.o1 hb, owns_call h.o2 hb, h.ne⟩
theorem TwoZ.app1 {B : Nat} {W W' : World} {v1 v1' v2 : Value} {ts os : List Int} {x : Int} (h : TwoZ B W v1 v2 ts os) (hown : W'.ownsRow B 3 1 v1' (ts.length + 1) (zs ts ++ [.int .i64 x])) (hg : W.grownBy W' v1.ownBlock) (hat : v1'.ownBlock = v1.ownBlock ∨ v1'.ownBlock = some W.heap.size) : TwoZ B W' v1' v2 (ts ++ [x]) os := by
 refine ⟨by rw [zs_append, List.length_append]; exact hown, ownsRow_keep h.o2 fun g hg' => hg.block g (h.o2.lt g hg').2 (fun e => h.ne g e.symm hg'), fun g hg1 hg2 => ?_⟩
 rcases hat with e | e
 ·exact h.ne g (e ▸ hg1) hg2
 ·rw [e] at hg1
  have := (h.o2.lt g hg2).2
  injection hg1 with hg1
  omega
theorem TwoZ.app2 {B : Nat} {W W' : World} {v1 v2 v2' : Value} {ts os : List Int} {x : Int} (h : TwoZ B W v1 v2 ts os) (hown : W'.ownsRow B 3 1 v2' (os.length + 1) (zs os ++ [.int .i64 x])) (hg : W.grownBy W' v2.ownBlock) (hat : v2'.ownBlock = v2.ownBlock ∨ v2'.ownBlock = some W.heap.size) : TwoZ B W' v1 v2' ts (os ++ [x]) := by
 refine ⟨ownsRow_keep h.o1 fun g hg' => hg.block g (h.o1.lt g hg').2 (fun e => h.ne g hg' e.symm), by rw [zs_append, List.length_append]; exact hown, fun g hg1 hg2 => ?_⟩
 rcases hat with e | e
 ·exact h.ne g hg1 (e ▸ hg2)
 ·rw [e] at hg2
  have := (h.o1.lt g hg1).2
  injection hg2 with hg2
  omega
theorem news_blk {W : World} {g : Nat} {x : Value} {t : TypeId} (h : Blk W g #[x] t) : ∀ j u, [x][j]? = some u → W.cell? ((⟨g, 0, none⟩ : Addr).add j) = some u := fun j u hj => by
 match j, hj with
 | 0, hj =>
  simp at hj
  subst hj
  rw [Addr.add_lit]
  exact h.cell 0
theorem tdiv_bd {x : Int} (h1 : -9223372036854775808 ≤ x) (h2 : x ≤ 9223372036854775807) : -4611686018427387904 ≤ x.tdiv 2 ∧ x.tdiv 2 ≤ 4611686018427387904 := by
 rcases Int.lt_or_le x 0 with h | h
 ·obtain ⟨y, rfl⟩ : ∃ y, x = -y := ⟨-x, by omega⟩
  rw [Int.neg_tdiv, Int.tdiv_eq_ediv_of_nonneg (by omega)]
  omega
 ·rw [Int.tdiv_eq_ediv_of_nonneg h]
  omega
end Go.Proofs.YtckihjfkafdncaaGreatDoor
namespace Go.Proofs.YtckihjfkafdncaaGreatDoor
open Go.RowKit
open Go.Lib (decDigits nDigits)
def DfU (same : Bool) (S : Nat) (ts os : List Int) : Prop := ∀ (i : Nat) (u v : Int), ts[i]? = some u → os[i]? = some v → v - u ≤ S ∧ u - v ≤ S ∧ (same = true → u ≤ v)
theorem DfU.nil (same : Bool) (S : Nat) : DfU same S [] [] := fun i u v hu => by simp at hu
theorem DfU.snoc {same : Bool} {S S' : Nat} {us vs : List Int} {t k : Int} (h : DfU same S us vs) (hl : us.length = vs.length) (hS : S ≤ S') (k1 : k ≤ S') (k2 : -k ≤ S') (k3 : same = true → 0 ≤ k) : DfU same S' (us ++ [t]) (vs ++ [t + k]) := fun i u v hu hv => by
 rcases snoc_get hu with hu | ⟨h1, rfl⟩ <;> rcases snoc_get hv with hv | ⟨h2, rfl⟩
 ·obtain ⟨a, b, c⟩ := h i u v hu hv
  exact ⟨by omega, by omega, c⟩
 ·have := (List.getElem?_eq_some_iff.1 hu).1; omega
 ·have := (List.getElem?_eq_some_iff.1 hv).1; omega
 ·exact ⟨by omega, by omega, fun h => by have := k3 h; omega⟩
theorem pr_powN (n d : Nat) : ∀ m : Nat, (mkRat (n : Int) d : Rat) ^ m = mkRat ((n ^ m : Nat) : Int) (d ^ m)
 | 0 => by rw [Rat.pow_zero, Nat.pow_zero, Nat.pow_zero]; rfl
 | m + 1 => by rw [Rat.pow_succ, pr_powN n d m, Rat.mkRat_mul_mkRat, Nat.pow_succ, Nat.pow_succ, Int.natCast_mul]
theorem pr_inv (n d : Nat) : (mkRat (n : Int) d : Rat)⁻¹ = mkRat (d : Int) n := by
 rw [← Rat.divInt_ofNat, Rat.inv_divInt, Rat.divInt_ofNat]
theorem qD_ten {a : ByteArray} (h : gPE a = 0) : bN (qD a) < 10 ^ (a.size + 1) := by
 obtain ⟨h1, -⟩ := ratio_q h
 obtain ⟨hb, -, -⟩ := qE_zero h1
 have e := numB_of (qB_below hb)
 have h2 := numB_size (bN (qD a))
 rw [← e] at h2
 have h3 := qD_size a
 exact Nat.lt_of_lt_of_le (Go.Lib.lt_pow_nDigits _) (Nat.pow_le_pow_right (by omega) (by omega))
theorem flR_size {c : List Int} {a : ByteArray} {n : Int} : ∀ p ∈ flR c a n, p.2.size ≤ 10000 := fun p hp => by
 unfold flR at hp
 split at hp
 ·rw [sortM_mem, fkP_mem] at hp
  rw [fkW_cnt hp.1]
  unfold dyB shB; exact outB_size _
 ·simp at hp
theorem flE_ok {c : List Int} {a : ByteArray} {n : Int} (h : flE c a n = 0) : 1 ≤ c.length ∧ gPE a = 0 ∧ 0 ≤ n := by
 unfold flE at h
 split at h
 ·rename_i h1; exact absurd h h1
 ·rename_i h1
  obtain ⟨q1, q2, q3, q4⟩ := qnE_ok (Classical.byContradiction h1)
  split at h
  ·cases h
  ·exact ⟨q1, q4, by omega⟩
theorem pq_main {ts os : List Int} {a : ByteArray} {n : Int} {mm : Nat} {same : Bool} (h1 : flE ts a n = 0) (h2 : flE os a n = 0) (hl : ts.length = os.length) (h4 : ts.length ≤ 4) (ha : a.size ≤ 12) (ha0 : a ≠ ⟨#[48]⟩) (hn : n ≤ 6) (hmm : mm ≤ 2) (hD : DfU same mm ts os) :
 ffE a mm same = 0 ∧ valM (flR ts a n) lateB = valM (flR os a n) lateB ∧
 cmB (bydB (ffB a mm same) (flR ts a n) (flR os a n)) (op2B (· * ·) (ffB a mm same) (valM (flR ts a n) lateB)) ≤ 0 ∧
 cmB (bydB (ffB a mm same) (flR os a n) (flR ts a n)) (op2B (· * ·) (ffB a mm same) (valM (flR ts a n) lateB)) ≤ 0 := by
 obtain ⟨c1, hg, hn0⟩ := flE_ok h1
 have hP := ratio_pos hg ha0
 obtain ⟨-, hND⟩ := gPE_ok hg
 have hT := qD_ten hg
 have hV := ratio_mk hg
 obtain ⟨hq, -⟩ := ratio_q hg
 have hiv : ivrE a = 0 := by unfold ivrE; rw [if_neg (by simpa using hg), if_neg ha0]
 have hX : ffX a mm = 0 := by unfold ffX; rw [if_neg (by simpa using hiv), if_neg (by omega)]
 have hFE : ffE a mm same = pngE (ffM mm same) a := if_neg (by simpa using hX)
 have hFB : ffB a mm same = pngB (ffM mm same) a := if_neg (by simpa using hX)
 have hR1 : flR ts a n = sortM (fkP (gV (bN (cW a)) (bN (qD a)) false n.toNat) n.toNat ts) := if_pos h1
 have hR2 : flR os a n = sortM (fkP (gV (bN (cW a)) (bN (qD a)) false n.toNat) n.toNat os) := if_pos h2
 rw [hFE, hFB, hR1, hR2]
 obtain ⟨s, hs⟩ : ∃ s, ffM (mm : Int) same = s := ⟨_, rfl⟩
 have hs4 : s ≤ 4 := by rw [← hs]; unfold ffM; split <;> omega
 have hs2 : (same = true → s = mm) ∧ (same = false → s = 2 * mm) := by
  rw [← hs]; unfold ffM
  refine ⟨fun h => ?_, fun h => ?_⟩
  ·rw [if_pos h]; omega
  ·rw [if_neg (by rw [h]; decide)]; omega
 unfold pngB pngE op1B op1E
 rw [if_pos hq, if_pos hq, hs]
 rw [hV]
 have hpw : (fun q : Rat => q⁻¹ ^ s) (mkRat (bN (cW a) : Nat) (bN (qD a))) = mkRat ((bN (qD a) ^ s : Nat) : Int) (bN (cW a) ^ s) := by
  show (mkRat (bN (cW a) : Nat) (bN (qD a)))⁻¹ ^ s = _
  rw [pr_inv, pr_powN]
 rw [hpw]
 obtain ⟨N, hN⟩ : ∃ N, bN (cW a) = N := ⟨_, rfl⟩
 obtain ⟨D, hDD⟩ : ∃ N, bN (qD a) = N := ⟨_, rfl⟩
 obtain ⟨k, hk⟩ : ∃ k : Nat, n.toNat = k := ⟨_, rfl⟩
 rw [hN, hDD]
 rw [hN] at hND hP
 rw [hDD] at hND hT
 rw [hk]
 have hT13 : D < 10 ^ 13 := Nat.lt_of_lt_of_le hT (Nat.pow_le_pow_right (by omega) (by omega))
 have hD52 : D ^ s ≤ (10 ^ 13) ^ 4 := Nat.le_trans (Nat.pow_le_pow_left (by omega) s) (Nat.pow_le_pow_right (by omega) hs4)
 have hNDs : N ^ s ≤ D ^ s := Nat.pow_le_pow_left (by omega) s
 have hk4 : k * ts.length ≤ 24 := by
  have : k ≤ 6 := by omega
  exact Nat.le_trans (Nat.mul_le_mul this h4) (by omega)
 have h24 : 2 ^ (k * ts.length) ≤ 2 ^ 24 := Nat.pow_le_pow_right (by omega) hk4
 have hH : D ^ s * 2 ^ (k * ts.length) < 10 ^ 60 := Nat.lt_of_le_of_lt (Nat.mul_le_mul hD52 h24) (by decide)
 have hG : N ^ s * 2 ^ (k * ts.length) < 10 ^ 60 := Nat.lt_of_le_of_lt (Nat.mul_le_mul_right _ hNDs) hH
 have hne : ts ≠ [] := fun e => by rw [e] at c1; simp at c1
 have hne' : os ≠ [] := fun e => by rw [e] at hl; simp at hl; exact hne hl
 have nz : N ^ s ≠ 0 := Nat.ne_of_gt (Nat.pow_pos hP)
 have d1 := nDigits_le (k := 60) (by omega) (Nat.lt_of_le_of_lt (Nat.le_mul_of_pos_right (D ^ s) (Nat.pow_pos (n := k * ts.length) (show 0 < 2 by omega))) hH)
 have d2 := nDigits_le (k := 60) (by omega) (Nat.lt_of_le_of_lt (Nat.le_mul_of_pos_right (N ^ s) (Nat.pow_pos (n := k * ts.length) (show 0 < 2 by omega))) hG)
 have fit : ¬ ovQ (mkRat ((D ^ s : Nat) : Int) (N ^ s)) := (dig_frac (K := 1000) nz (by rw [Int.natAbs_natCast]; omega) (by omega)).fits (by omega) (by omega)
 rw [outB_fits fit, outE_fits fit]
 have key : ∀ (i : Nat), i < ts.length → ∃ u v, ts[i]? = some u ∧ os[i]? = some v ∧ ts.getD i 0 = u ∧ os.getD i 0 = v ∧ v - u ≤ mm ∧ u - v ≤ mm ∧ (same = true → u ≤ v) := fun i hi => by
  obtain ⟨u, hu⟩ : ∃ x, ts[i]? = some x := ⟨_, List.getElem?_eq_getElem hi⟩
  obtain ⟨v, hv⟩ : ∃ x, os[i]? = some x := ⟨_, List.getElem?_eq_getElem (by omega)⟩
  obtain ⟨d1, d2, d3⟩ := hD i u v hu hv
  exact ⟨u, v, hu, hv, by rw [List.getD_eq_getElem?_getD, hu]; rfl, by rw [List.getD_eq_getElem?_getD, hv]; rfl, d1, d2, d3⟩
 have p1 := fd_private (N := N) (D := D) (n := k) (s := s) hND hP (K := 60) (by omega) hne hl (by omega) (by omega) hG hH (fun i j x y hi hx hy => by
  obtain ⟨u, v, hu, hv, e1, e2, a1, a2, a3⟩ := key i hi
  obtain ⟨b1, b2, b3⟩ := hD j x y hx hy
  rw [e1, e2]
  cases same
  ·have := hs2.2 rfl; omega
  ·have := hs2.1 rfl; have := a3 rfl; omega)
 have p2 := fd_private (N := N) (D := D) (n := k) (s := s) hND hP (K := 60) (by omega) hne' hl.symm (by rw [← hl]; omega) (by omega) (by rw [← hl]; exact hG) (by rw [← hl]; exact hH) (fun i j x y hi hx hy => by
  obtain ⟨u, v, hu, hv, e1, e2, a1, a2, a3⟩ := key i (by omega)
  obtain ⟨b1, b2, b3⟩ := hD j y x hy hx
  rw [e1, e2]
  cases same
  ·have := hs2.2 rfl; omega
  ·have := hs2.1 rfl; have := b3 rfl; omega)
 refine ⟨rfl, p1.2, p1.1, ?_⟩
 rw [p1.2]
 exact p2.1
end Go.Proofs.YtckihjfkafdncaaGreatDoor
