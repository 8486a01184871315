/- Texts that the proof rests on, merged: Gl2, Gl3, Tot3, Cv9, E5, Pc2, Lt, Gt0, Ol, Gd1, Gd2, RtW, Rt2, Rt3, Fr2. -/
import Derived.Test.YtccalhlhdiapiaaGreatDoorKo7
import Derived.Laws.IdiomStrings
import Derived.WalkSpells
import Derived.IntWalk
import Derived.Deep.RegionHeld3
import Derived.Deep.DeepCutAuto
import Derived.Deep.CutBlock
import Derived.Laws.Concat
import Derived.Maps.RangeWalk
import Derived.Maps.StringElems
namespace Go.Proofs.YtccalhlhdiapiaaGreatDoor
open Go.RowKit Go.Maps
open Go.Lib (decDigits nDigits)
set_option linter.unusedVariables false
set_option linter.unusedSimpArgs false
set_option maxRecDepth 100000 in
set_option maxHeartbeats 8000000 in
theorem g_law1 {H : Type} (w : World) (a : ByteArray) (n N D : Nat) (ha : a.size ≤ 100000) (he : gPE a = 0) (hn : n ≤ 32) (hN : bN (cW a) = N) (hD : bN (qD a) = D) (hND : N < D) (hL : Lay w) :
    Calls Tryz.prog 74 #[.string a, .int .i64 n, .bool false] w fun e w' => (∃ B nn Dm, e = .returned (.map (some B)) ∧ w.heap.size ≤ B ∧ nn ≤ 3000000 ∧ w'.ownsMap Tryz.prog 3 (plainElem (H := H) Tryz.prog 22) B nn Dm ∧ ReadsI Dm (gV N D false n)) ∧ Below w.heap.size w w' := by
  have HE := hid (g_ends w a n N D ha he hn hN hD hND hL)
  have HAT : Hid (∀ V gt i k, TabR V gt n (ednL N D n) → i ≤ n → k ≤ n → Calls Tryz.prog 122 #[.pointer (some ⟨gt, 0, none⟩), .int .i64 (i : Nat), .int .i64 (k : Nat)] V fun e w' => e = .returned (.string (numB (edn N D i k))) ∧ V = w') := fun V gt i k hT hi hk => by
    have := tb_at V gt n i k (ednL N D n) hT hi hk (by omega)
    unfold ednL at this
    rw [fnL_get hk] at this
    exact this
  have HPW := fun V k (hk : k ≤ 1000) hV => hid (g_power V k hk hV)
  have EB : Hid (∀ i k, i ≤ n → k ≤ n → edn N D i k ≤ 2 ^ 200) := fun i k hi hk => Nat.le_trans (edn_bd hn i k hk) (Nat.pow_le_pow_right (by omega) (by omega))
  have HL := hid hL; have HLL := hid hL.lt; have HN := hid hn; have HND := hid hND
  have wn : IntKind.i64.wrap ((n : Int) + 1) = ((n + 1 : Nat) : Int) := by rw [IntWalk.i64_in _ ⟨by omega, by omega⟩]; omega
  have hmm := @run_makeMap Tryz.prog
  clear ha he hn hN hD hND hL
  go_enter Tryz.func74, Tryz.ntmps74
  go_wp2_with fail
  refine HE.out.mono ?_; rintro e w1 ⟨⟨gt, rfl, hgt, hT⟩, hb1⟩
  have T1 := hid hT; have B1 := hid hb1
  clear hT hb1 HE hgt
  have TK : Hid (∀ V, Below w1.heap.size w1 V → TabR V gt n (ednL N D n)) := fun V hV => T1.out.call hV
  have LK : Hid (∀ V, Below w1.heap.size w1 V → Lay V) := fun V hV => (HL.out.call B1.out).call hV
  have HR0 : Hid (∀ V, Below w1.heap.size w1 V → ∃ g c, n + 1 ≤ c ∧ c ≤ 9223372036854775807 ∧ V.cell? ⟨gt, 0, none⟩ = some (.slice (some ⟨g, 0, none⟩) (n + 1) c)) := fun V hV => by
    obtain ⟨-, g, c, h1, h2, h3, -, -⟩ := TK.out V hV
    exact ⟨g, c, h1, h2, h3⟩
  have G0 : Hid (GlS H w1 (w1.alloc (.map #[] 0)) w1.heap.size 0 (fun _ => 0)) := ⟨(Below.refl _ _).alloc (Nat.le_refl _) _, 0, .map [], Nat.le_refl _, World.ownsMap_made _ _ _ _, ReadsI.nil⟩
  obtain ⟨g, c, hc1, hc2, r0⟩ := HR0.out _ G0.out.bel
  clear T1
  go_wp2_with fail
  obtain ⟨W1, hW1⟩ : ∃ W, w1.alloc (.map #[] 0) = W := ⟨_, rfl⟩
  obtain ⟨B, hB⟩ : ∃ B, w1.heap.size = B := ⟨_, rfl⟩
  have HB := hid hB
  have G1 : Hid (GlS H w1 W1 B 0 (fun _ => 0)) := by rw [← hW1, ← hB]; exact G0.out
  rw [hW1, hB]
  clear hW1 hB G0 r0 hc1 hc2
  go_loopw [22] (fun ii wr => ∃ i : Nat, ii = .int .i64 (i : Nat) ∧ i ≤ n + 1 ∧ Hid (GlS H w1 wr B (i * 64000) (c1 N D n i 0))) (fun ii wr => n + 1 - (intOf ii).toNat)
  case atStart => exact ⟨0, rfl, Nat.zero_le _, hid (by rw [c1_zero]; exact G1.out)⟩
  case round =>
    obtain ⟨i, rfl, hi, hG⟩ := hrel
    by_cases hlt : i < n + 1
    · have q0 : decide ((i : Int) < ((n + 1 : Nat) : Int)) = true := by simp; omega
      have di : decide ((i : Int) < (n : Int) + 1) = true := by simp; omega
      have IL := hid hlt
      have f2 : (i : Int) ≤ 100 := by have := HN.out; omega
      clear hi hlt
      go_wp2_with fail
      go_loopw [27] (fun ss wq => ∃ s : Nat, ss = .int .i64 (s : Nat) ∧ s ≤ n + 1 ∧ Hid (GlS H w1 wq B (i * 64000 + s * 1600) (c1 N D n i s))) (fun ss wq => n + 1 - (intOf ss).toNat)
      case atStart => exact ⟨0, rfl, Nat.zero_le _, hid (hG.out.mono (by omega) rfl)⟩
      case round =>
        clear hG
        obtain ⟨s, rfl, hs, hG⟩ := hrel
        by_cases hlt : s < n + 1
        · have q0 : decide ((s : Int) < ((n + 1 : Nat) : Int)) = true := by simp; omega
          have d30 : decide ((s : Int) < (n : Int) + 1) = true := by simp; omega
          have SL := hid hlt
          have f3 : (s : Int) ≤ 100 := by have := HN.out; omega
          have A1 := fun V hV => hid (HAT.out V gt i s (TK.out V hV) (by have := IL.out; omega) (by have := SL.out; omega))
          obtain ⟨x, hx⟩ : ∃ x, edn N D i s = x := ⟨_, rfl⟩
          rw [hx] at A1
          have bx : x ≤ 2 ^ 200 := hx ▸ EB.out i s (by have := IL.out; omega) (by have := SL.out; omega)
          by_cases hx0 : x = 0
          · have q1 : ((numB x).toList == [48]) = true := by rw [hx0, numB_zero]; exact lit_zero
            have hsk := hid (c1_skip (N := N) (D := D) (n := n) (i := i) (s := s) (hx.trans hx0))
            obtain ⟨sx, hsx⟩ : ∃ s, numB x = s := ⟨_, rfl⟩
            rw [hsx] at A1 q1
            clear hs hlt hx bx hx0 hsx
            go_wp2_with fail
            refine (A1 _ hG.out.bel).out.mono ?_; rintro e w2 ⟨rfl, rfl⟩
            go_wp2_with fail
            go_roundw
            case rel => exact ⟨s + 1, by go_num, by have := SL.out; omega, hid (by rw [hsk.out]; exact hG.out.mono (by omega) rfl)⟩
            case measure => simp [intOf] <;> (have := SL.out; omega)
          · have q1 : ((numB x).toList == [48]) = false := ne_lit (l := [48]) (by rw [← numB_zero]; exact numB_ne hx0)
            obtain ⟨hbl, nn, Dm, hnn, hO, hR⟩ := hG.out
            have hcl := c1_le (N := N) (D := D) HND.out (n := n) (i := i) (s := s) (by have := IL.out; omega) (by omega) (i : Int)
            have hcl2 := c1_le (N := N) (D := D) HND.out (n := n) (i := i) (s := s + 1) (by have := IL.out; omega) (by have := SL.out; omega) (i : Int)
            have hgv := gV_le HND.out false n (i : Int)
            have hstep := c1_step N D n i s
            rw [hstep] at hcl2
            rw [hx] at hstep hcl2
            unfold addM at hcl2
            rw [if_pos rfl] at hcl2
            have hp2 : 2 ^ (n - s) ≤ 2 ^ 32 := Nat.pow_le_pow_right (by omega) (by have := HN.out; omega)
            have hpn : 2 ^ n ≤ 2 ^ 32 := Nat.pow_le_pow_right (by omega) HN.out
            have hxp : 0 < x * 2 ^ (n - s) := Nat.mul_pos (by omega) (Nat.pow_pos (by omega))
            have hRP := ReadsI.put hR (i : Int) hxp
            have HRP := hid hRP; have HO := hid hO; have HNN := hid hnn; have HBL := hid hbl; have HST := hid hstep
            obtain ⟨y, hy⟩ : ∃ y, c1 N D n i s (i : Int) = y := ⟨_, rfl⟩
            have HLK : Hid (∀ V, Below wr.heap.size wr V → (Instr.lookup 88 (.map (some B)) (.int .i64 (i : Nat)) false).run Tryz.prog V = .ok (.string (cellB y)) V) := fun V hV => by
              have := look_i (HO.out.kept (row := none) ⟨hV.os, hV.tape, hV.output, hV.size, fun k hk _ => hV.block k hk⟩ (by simp)) hR (wf_int (v := (i : Int)) (by omega) (by omega))
              rw [hy] at this
              exact this
            rw [hy] at HRP hcl hcl2
            have dx := two_pow_digits bx (by omega)
            have dp := two_pow_digits hp2 (by omega)
            have dxp := two_pow_digits (i := 32) (show x * 2 ^ (n - s) ≤ 2 ^ 32 by omega) (by omega)
            have dy := two_pow_digits (i := 32) (show y ≤ 2 ^ 32 by omega) (by omega)
            have ds := two_pow_digits (i := 32) (show y + x * 2 ^ (n - s) ≤ 2 ^ 32 by omega) (by omega)
            have P0 := fun V hV => HPW V (n - s) (by have := HN.out; omega) hV
            have P1 := fun V hV => hid (p_times V x (2 ^ (n - s)) dx dp dxp hV)
            have P2 := fun V hV => hid (p_plus V y (x * 2 ^ (n - s)) dy dxp ds hV)
            have POR := fun V g h => hid (c_Or V g y h)
            have hsz := hid (numB_size_le ds)
            have wsub : IntKind.i64.wrap ((n : Int) - (s : Int)) = ((n - s : Nat) : Int) := by have := HN.out; have := SL.out; rw [IntWalk.i64_in _ ⟨by omega, by omega⟩]; omega
            obtain ⟨sx, hsx⟩ : ∃ t, numB x = t := ⟨_, rfl⟩
            obtain ⟨sp, hsp⟩ : ∃ t, numB (2 ^ (n - s)) = t := ⟨_, rfl⟩
            obtain ⟨sxp, hsxp⟩ : ∃ t, numB (x * 2 ^ (n - s)) = t := ⟨_, rfl⟩
            obtain ⟨sy, hsy⟩ : ∃ t, numB y = t := ⟨_, rfl⟩
            obtain ⟨sz, hszz⟩ : ∃ t, numB (y + x * 2 ^ (n - s)) = t := ⟨_, rfl⟩
            obtain ⟨cy, hcy⟩ : ∃ t, cellB y = t := ⟨_, rfl⟩
            rw [hsx] at A1 q1
            rw [hsp] at P0
            rw [hsx, hsp, hsxp] at P1
            rw [hsy, hsxp, hszz] at P2
            rw [hsy, hcy] at POR
            rw [hcy] at HLK
            rw [hszz] at hsz HRP
            have Z0 : Hid (w1.heap.size ≤ wr.heap.size) := hbl.size
            clear hs hlt hx bx hx0 hsx hcl hcl2 hgv hstep hp2 hpn hxp hRP hbl hnn hO hR hy dx dp dxp dy ds hsp hsxp hsy hszz hcy
            have lk := HLK.out wr (Below.refl _ _)
            have C2 : Blk (wr.alloc (.cells #[.string cy, .string ⟨#[48]⟩] 22)) wr.heap.size #[.string cy, .string ⟨#[48]⟩] 22 := Blk.new wr #[.string cy, .string ⟨#[48]⟩] 22
            have A2 := hid (show Below wr.heap.size wr (wr.alloc (.cells #[.string cy, .string ⟨#[48]⟩] 22)) from (Below.refl _ _).alloc (Nat.le_refl _) _)
            have F2 := hid (bnext HBL.out A2.out)
            go_wp2_with fail
            refine (A1 _ hG.out.bel).out.mono ?_; rintro e w2 ⟨rfl, rfl⟩
            go_wp2_with fail
            refine (POR _ _ C2).out.mono ?_; rintro e w2 ⟨rfl, rfl⟩
            clear lk C2
            go_wp2_with fail
            refine (A1 _ F2.out).out.mono ?_; rintro e w2 ⟨rfl, rfl⟩
            go_wp2_with fail
            refine (P0 _ (LK.out _ F2.out)).out.mono ?_; rintro e w3 ⟨rfl, hb3⟩
            have A3 := hid (bnext A2.out hb3)
            clear hb3
            go_wp2_with fail
            refine (P1 _ (LK.out _ (bnext HBL.out A3.out))).out.mono ?_; rintro e w4 ⟨rfl, hb4⟩
            have A4 := hid (bnext A3.out hb4)
            clear hb4
            go_wp2_with fail
            refine (P2 _ (LK.out _ (bnext HBL.out A4.out))).out.mono ?_; rintro e w5 ⟨rfl, hb5⟩
            have A5 := hid (bnext A4.out hb5)
            clear hb5
            go_wp2_with (at_mapUpdate; refine wpList_mapUpdate_own _ rfl _ _ _ 88 rfl 3 22 (int_keyed Tryz.underlying3) Tryz.underlying88 _ B nn _ rfl (HO.out.kept (row := none) ⟨A5.out.os, A5.out.tape, A5.out.output, A5.out.size, fun k hk _ => A5.out.block k hk⟩ (by simp)) (by have := HNN.out; have := HN.out; have := IL.out; have := SL.out; unfold maxLen; omega) _ _ _ rfl rfl (keyOf_int_mk Tryz.underlying3 (wf_int (v := (i : Int)) (by omega) (by omega))) _ [] (plainElem_string Tryz.underlying22 hsz.out) ?_; intro w6 hown hgrow)
            have OW := hid hown
            have B6 := hid (below_map (bnext HBL.out A5.out) hgrow (by rw [HB.out]; exact Nat.le_refl _))
            clear hown hgrow HLK
            go_roundw
            case rel =>
              refine ⟨s + 1, by go_num, by have := SL.out; omega, hid ⟨B6.out, nn + 1, _, by have := HNN.out; omega, OW.out, ?_⟩⟩
              rw [HST.out]
              exact HRP.out
            case measure => simp [intOf] <;> (have := SL.out; omega)
        · have q0 : decide ((s : Int) < ((n + 1 : Nat) : Int)) = false := by simp; omega
          have d30 : decide ((s : Int) < (n : Int) + 1) = false := by simp; omega
          have e1 : s = n + 1 := by omega
          subst e1
          clear hs hlt
          have hrow := hid (c1_row N D n i)
          go_wp2_with fail
          go_roundw
          case rel => exact ⟨i + 1, by go_num, by have := IL.out; omega, hid (hG.out.mono (by have := HN.out; omega) hrow.out)⟩
          case measure => simp [intOf] <;> (have := IL.out; omega)
    · have q0 : decide ((i : Int) < ((n + 1 : Nat) : Int)) = false := by simp; omega
      have di : decide ((i : Int) < (n : Int) + 1) = false := by simp; omega
      have e1 : i = n + 1 := by omega
      subst e1
      clear hi hlt
      obtain ⟨hbl, nn, Dm, h1, h2, h3⟩ := hG.out
      have HBL := hid hbl; have H1 := hid h1; have H2 := hid h2; have H3 := hid h3
      clear hbl h1 h2 h3
      go_wp2_with fail
      go_ret
      refine ⟨⟨B, nn, Dm, rfl, by rw [← HB.out]; exact B1.out.size, by have := H1.out; have := HN.out; omega, H2.out, ?_⟩, bnext B1.out HBL.out⟩
      have e2 : c1 N D n (n + 1) 0 = gV N D false n := funext fun v => c1_end HND.out n v
      rw [← e2]
      exact H3.out
end Go.Proofs.YtccalhlhdiapiaaGreatDoor
namespace Go.Proofs.YtccalhlhdiapiaaGreatDoor
open Go.RowKit Go.Maps
open Go.Lib (decDigits nDigits)
set_option linter.unusedVariables false
set_option linter.unusedSimpArgs false
set_option maxRecDepth 100000 in
set_option maxHeartbeats 8000000 in
theorem g_law2 {H : Type} (w : World) (a : ByteArray) (n N D : Nat) (ha : a.size ≤ 100000) (he : gPE a = 0) (hn : n ≤ 32) (hN : bN (cW a) = N) (hD : bN (qD a) = D) (hND : N < D) (hL : Lay w) :
    Calls Tryz.prog 74 #[.string a, .int .i64 n, .bool true] w fun e w' => (∃ B nn Dm, e = .returned (.map (some B)) ∧ w.heap.size ≤ B ∧ nn ≤ 3000000 ∧ w'.ownsMap Tryz.prog 3 (plainElem (H := H) Tryz.prog 22) B nn Dm ∧ ReadsI Dm (gV N D true n)) ∧ Below w.heap.size w w' := by
  have HE := hid (g_ends w a n N D ha he hn hN hD hND hL)
  have HAT : Hid (∀ V gt i k, TabR V gt n (ednL N D n) → i ≤ n → k ≤ n → Calls Tryz.prog 122 #[.pointer (some ⟨gt, 0, none⟩), .int .i64 (i : Nat), .int .i64 (k : Nat)] V fun e w' => e = .returned (.string (numB (edn N D i k))) ∧ V = w') := fun V gt i k hT hi hk => by
    have := tb_at V gt n i k (ednL N D n) hT hi hk (by omega)
    unfold ednL at this
    rw [fnL_get hk] at this
    exact this
  have HPW := fun V k (hk : k ≤ 1000) hV => hid (g_power V k hk hV)
  have EB : Hid (∀ i k, i ≤ n → k ≤ n → edn N D i k ≤ 2 ^ 200) := fun i k hi hk => Nat.le_trans (edn_bd hn i k hk) (Nat.pow_le_pow_right (by omega) (by omega))
  have HL := hid hL; have HLL := hid hL.lt; have HN := hid hn; have HND := hid hND
  have wn : IntKind.i64.wrap ((n : Int) + 1) = ((n + 1 : Nat) : Int) := by rw [IntWalk.i64_in _ ⟨by omega, by omega⟩]; omega
  have hmm := @run_makeMap Tryz.prog
  clear ha he hn hN hD hND hL
  go_enter Tryz.func74, Tryz.ntmps74
  go_wp2_with fail
  refine HE.out.mono ?_; rintro e w1 ⟨⟨gt, rfl, hgt, hT⟩, hb1⟩
  have T1 := hid hT; have B1 := hid hb1
  clear hT hb1 HE hgt
  have TK : Hid (∀ V, Below w1.heap.size w1 V → TabR V gt n (ednL N D n)) := fun V hV => T1.out.call hV
  have LK : Hid (∀ V, Below w1.heap.size w1 V → Lay V) := fun V hV => (HL.out.call B1.out).call hV
  have HR0 : Hid (∀ V, Below w1.heap.size w1 V → ∃ g c, n + 1 ≤ c ∧ c ≤ 9223372036854775807 ∧ V.cell? ⟨gt, 0, none⟩ = some (.slice (some ⟨g, 0, none⟩) (n + 1) c)) := fun V hV => by
    obtain ⟨-, g, c, h1, h2, h3, -, -⟩ := TK.out V hV
    exact ⟨g, c, h1, h2, h3⟩
  have G0 : Hid (GlS H w1 (w1.alloc (.map #[] 0)) w1.heap.size 0 (fun _ => 0)) := ⟨(Below.refl _ _).alloc (Nat.le_refl _) _, 0, .map [], Nat.le_refl _, World.ownsMap_made _ _ _ _, ReadsI.nil⟩
  obtain ⟨g, c, hc1, hc2, r0⟩ := HR0.out _ G0.out.bel
  clear T1
  go_wp2_with fail
  obtain ⟨W1, hW1⟩ : ∃ W, w1.alloc (.map #[] 0) = W := ⟨_, rfl⟩
  obtain ⟨B, hB⟩ : ∃ B, w1.heap.size = B := ⟨_, rfl⟩
  have HB := hid hB
  have G1 : Hid (GlS H w1 W1 B 0 (fun _ => 0)) := by rw [← hW1, ← hB]; exact G0.out
  rw [hW1, hB]
  clear hW1 hB G0 r0 hc1 hc2
  go_loopw [22] (fun ii wr => ∃ i : Nat, ii = .int .i64 (i : Nat) ∧ i ≤ n + 1 ∧ Hid (GlS H w1 wr B (i * 64000) (c2 N D n i 0 0 0))) (fun ii wr => n + 1 - (intOf ii).toNat)
  case atStart => exact ⟨0, rfl, Nat.zero_le _, hid (by rw [c2_zero]; exact G1.out)⟩
  case round =>
    obtain ⟨i, rfl, hi, hG⟩ := hrel
    by_cases hlt : i < n + 1
    · have q0 : decide ((i : Int) < ((n + 1 : Nat) : Int)) = true := by simp; omega
      have di : decide ((i : Int) < (n : Int) + 1) = true := by simp; omega
      have IL := hid hlt
      have f2 : (i : Int) ≤ 100 := by have := HN.out; omega
      clear hi hlt
      go_wp2_with fail
      go_loopw [27] (fun ss wq => ∃ s : Nat, ss = .int .i64 (s : Nat) ∧ s ≤ n + 1 ∧ Hid (GlS H w1 wq B (i * 64000 + s * 1600) (c2 N D n i s 0 0))) (fun ss wq => n + 1 - (intOf ss).toNat)
      case atStart => exact ⟨0, rfl, Nat.zero_le _, hid (hG.out.mono (by omega) rfl)⟩
      case round =>
        clear hG
        obtain ⟨s, rfl, hs, hG⟩ := hrel
        by_cases hlt : s < n + 1
        · have q0 : decide ((s : Int) < ((n + 1 : Nat) : Int)) = true := by simp; omega
          have d30 : decide ((s : Int) < (n : Int) + 1) = true := by simp; omega
          have SL := hid hlt
          have f3 : (s : Int) ≤ 100 := by have := HN.out; omega
          have A1 := fun V hV => hid (HAT.out V gt i s (TK.out V hV) (by have := IL.out; omega) (by have := SL.out; omega))
          obtain ⟨x, hx⟩ : ∃ x, edn N D i s = x := ⟨_, rfl⟩
          rw [hx] at A1
          have bx : x ≤ 2 ^ 200 := hx ▸ EB.out i s (by have := IL.out; omega) (by have := SL.out; omega)
          by_cases hx0 : x = 0
          · have q1 : ((numB x).toList == [48]) = true := by rw [hx0, numB_zero]; exact lit_zero
            have hsk := hid (c2_none (N := N) (D := D) (n := n) (i := i) (s := s) (hx.trans hx0))
            obtain ⟨sx, hsx⟩ : ∃ s, numB x = s := ⟨_, rfl⟩
            rw [hsx] at A1 q1
            clear hs hlt hx bx hx0 hsx
            go_wp2_with fail
            refine (A1 _ hG.out.bel).out.mono ?_; rintro e w2 ⟨rfl, rfl⟩
            go_wp2_with fail
            go_roundw
            case rel => exact ⟨s + 1, by go_num, by have := SL.out; omega, hid (by rw [hsk.out]; exact hG.out.mono (by omega) rfl)⟩
            case measure => simp [intOf] <;> (have := SL.out; omega)
          · have q1 : ((numB x).toList == [48]) = false := ne_lit (l := [48]) (by rw [← numB_zero]; exact numB_ne hx0)
            have HX := hid hx; have BX := hid bx; have HX0 := hid hx0
            obtain ⟨sx, hsx⟩ : ∃ s, numB x = s := ⟨_, rfl⟩
            rw [hsx] at A1 q1
            have HSX := hid hsx
            obtain ⟨g', c', hc1', hc2', r0'⟩ := HR0.out _ hG.out.bel
            clear hs hlt hx bx hx0 hsx
            go_wp2_with fail
            refine (A1 _ hG.out.bel).out.mono ?_; rintro e w2 ⟨rfl, rfl⟩
            go_wp2_with fail
            clear q1
            go_loopw [59] (fun kk wq => ∃ k : Nat, kk = .int .i64 (k : Nat) ∧ k ≤ n + 1 ∧ Hid (GlS H w1 wq B (i * 64000 + s * 1600 + k * 40) (c2 N D n i s k 0))) (fun kk wq => n + 1 - (intOf kk).toNat)
            case atStart => exact ⟨0, rfl, Nat.zero_le _, hid (hG.out.mono (by omega) rfl)⟩
            case round =>
              clear r0' hG
              obtain ⟨k, rfl, hk, hG⟩ := hrel
              by_cases hlt : k < n + 1
              · have q0 : decide ((k : Int) < ((n + 1 : Nat) : Int)) = true := by simp; omega
                have dk : decide ((k : Int) < (n : Int) + 1) = true := by simp; omega
                have KL := hid hlt
                have f4 : (k : Int) ≤ 100 := by have := HN.out; omega
                clear hk hlt
                go_wp2_with fail
                go_loopw [12] (fun uu wq => ∃ u : Nat, uu = .int .i64 (u : Nat) ∧ s + u ≤ n + 1 ∧ Hid (GlS H w1 wq B (i * 64000 + s * 1600 + k * 40 + u) (c2 N D n i s k u))) (fun uu wq => n + 1 - (intOf uu).toNat)
                case atStart => exact ⟨0, rfl, by have := SL.out; omega, hid (hG.out.mono (by omega) rfl)⟩
                case round =>
                  clear hG
                  obtain ⟨u, rfl, hu, hG⟩ := hrel
                  by_cases hlt : s + u ≤ n
                  · have q2 : decide ((s : Int) + (u : Int) ≤ (n : Int)) = true := by simp; omega
                    have UL := hid hlt
                    have f5 : (u : Int) ≤ 100 := by have := HN.out; omega
                    have A2 := fun V hV => hid (HAT.out V gt k u (TK.out V hV) (by have := KL.out; omega) (by have := UL.out; omega))
                    obtain ⟨y, hy⟩ : ∃ y, edn N D k u = y := ⟨_, rfl⟩
                    rw [hy] at A2
                    have by' : y ≤ 2 ^ 200 := hy ▸ EB.out k u (by have := KL.out; omega) (by omega)
                    by_cases hy0 : y = 0
                    · have q1 : ((numB y).toList == [48]) = true := by rw [hy0, numB_zero]; exact lit_zero
                      have hsk := hid (c2_skip (N := N) (D := D) (n := n) (i := i) (s := s) (k := k) (u := u) (hy.trans hy0))
                      obtain ⟨sy, hsy⟩ : ∃ s, numB y = s := ⟨_, rfl⟩
                      rw [hsy] at A2 q1
                      clear hu hlt hy by' hy0 hsy
                      go_wp2_with fail
                      refine (A2 _ hG.out.bel).out.mono ?_; rintro e w2 ⟨rfl, rfl⟩
                      go_wp2_with fail
                      go_roundw
                      case rel => exact ⟨u + 1, by go_num, by have := UL.out; omega, hid (by rw [hsk.out]; exact hG.out.mono (by omega) rfl)⟩
                      case measure => simp [intOf] <;> (have := UL.out; omega)
                    · have q1 : ((numB y).toList == [48]) = false := ne_lit (l := [48]) (by rw [← numB_zero]; exact numB_ne hy0)
                      obtain ⟨hbl, nn, Dm, hnn, hO, hR⟩ := hG.out
                      obtain ⟨v, hv⟩ : ∃ v : Int, (i : Int) - (k : Int) = v := ⟨_, rfl⟩
                      have hvb : -1000 ≤ v ∧ v ≤ 1000 := ⟨by omega, by have := IL.out; have := HN.out; omega⟩
                      have hcl := c2_le (N := N) (D := D) HND.out (n := n) (i := i) (s := s) (k := k) (u := u) (by have := IL.out; omega) (by omega) (by have := KL.out; omega) (by omega) v
                      have hcl2 := c2_le (N := N) (D := D) HND.out (n := n) (i := i) (s := s) (k := k) (u := u + 1) (by have := IL.out; omega) (by omega) (by have := KL.out; omega) (by omega) v
                      have hgv := gV_le HND.out true n v
                      have hstep := c2_u N D n i s k u
                      rw [hstep] at hcl2
                      rw [HX.out, hy, hv] at hstep hcl2
                      unfold addM at hcl2
                      rw [if_pos rfl] at hcl2
                      obtain ⟨m, hm⟩ : ∃ m, n - s - u = m := ⟨_, rfl⟩
                      obtain ⟨ns, hns⟩ : ∃ m, n - s = m := ⟨_, rfl⟩
                      have hm32 : m ≤ 32 := by have := HN.out; omega
                      have wsub : IntKind.i64.wrap ((n : Int) - (s : Int)) = (ns : Int) := by rw [IntWalk.i64_in _ ⟨by omega, by omega⟩]; omega
                      have wsub2 : IntKind.i64.wrap ((ns : Int) - (u : Int)) = (m : Int) := by rw [IntWalk.i64_in _ ⟨by omega, by omega⟩]; omega
                      have wik : IntKind.i64.wrap ((i : Int) - (k : Int)) = v := by rw [IntWalk.i64_in _ ⟨by omega, by omega⟩]; exact hv
                      rw [hm] at hstep hcl2
                      have hp2 : 2 ^ m ≤ 2 ^ 32 := Nat.pow_le_pow_right (by omega) hm32
                      have hpn : 2 ^ n ≤ 2 ^ 32 := Nat.pow_le_pow_right (by omega) HN.out
                      obtain ⟨xy, hxy⟩ : ∃ z, x * y = z := ⟨_, rfl⟩
                      have hxy0 : 0 < xy := by rw [← hxy]; exact Nat.mul_pos (by have := HX0.out; omega) (by omega)
                      have hxp : 0 < xy * 2 ^ m := Nat.mul_pos hxy0 (Nat.pow_pos (by omega))
                      have dxy' := nd_mul_pw BX.out by' (by omega)
                      rw [hxy] at dxy'
                      have dx := two_pow_digits BX.out (by omega)
                      have dyy := two_pow_digits by' (by omega)
                      have PXY := fun V hV => hid (p_times V x y dx dyy (by rw [hxy]; exact dxy') hV)
                      rw [hxy] at hstep hcl2 PXY
                      have hRP := ReadsI.put hR v hxp
                      have HRP := hid hRP; have HO := hid hO; have HNN := hid hnn; have HBL := hid hbl; have HST := hid hstep
                      obtain ⟨z, hz⟩ : ∃ y, c2 N D n i s k u v = y := ⟨_, rfl⟩
                      have HLK : Hid (∀ V, Below wr.heap.size wr V → (Instr.lookup 88 (.map (some B)) (.int .i64 v) false).run Tryz.prog V = .ok (.string (cellB z)) V) := fun V hV => by
                        have := look_i (HO.out.kept (row := none) ⟨hV.os, hV.tape, hV.output, hV.size, fun k hk _ => hV.block k hk⟩ (by simp)) hR (wf_int (v := v) (by omega) (by omega))
                        rw [hz] at this
                        exact this
                      rw [hz] at HRP hcl hcl2
                      have dp := two_pow_digits hp2 (by omega)
                      have dxp := two_pow_digits (i := 32) (show xy * 2 ^ m ≤ 2 ^ 32 by omega) (by omega)
                      have dz := two_pow_digits (i := 32) (show z ≤ 2 ^ 32 by omega) (by omega)
                      have ds := two_pow_digits (i := 32) (show z + xy * 2 ^ m ≤ 2 ^ 32 by omega) (by omega)
                      have P0 := fun V hV => HPW V m (by omega) hV
                      have P1 := fun V hV => hid (p_times V xy (2 ^ m) dxy' dp dxp hV)
                      have P2 := fun V hV => hid (p_plus V z (xy * 2 ^ m) dz dxp ds hV)
                      have POR := fun V g h => hid (c_Or V g z h)
                      have hsz := hid (numB_size_le ds)
                      have hwf := hid (keyOf_int_mk Tryz.underlying3 (wf_int (v := v) (by omega) (by omega)))
                      obtain ⟨sy, hsy⟩ : ∃ t, numB y = t := ⟨_, rfl⟩
                      obtain ⟨sxy, hsxy⟩ : ∃ t, numB xy = t := ⟨_, rfl⟩
                      obtain ⟨sp, hsp⟩ : ∃ t, numB (2 ^ m) = t := ⟨_, rfl⟩
                      obtain ⟨sxp, hsxp⟩ : ∃ t, numB (xy * 2 ^ m) = t := ⟨_, rfl⟩
                      obtain ⟨sz, hsz1⟩ : ∃ t, numB z = t := ⟨_, rfl⟩
                      obtain ⟨st, hst⟩ : ∃ t, numB (z + xy * 2 ^ m) = t := ⟨_, rfl⟩
                      obtain ⟨cz, hcz⟩ : ∃ t, cellB z = t := ⟨_, rfl⟩
                      rw [hsy] at A2 q1
                      rw [HSX.out, hsy, hsxy] at PXY
                      rw [hsp] at P0
                      rw [hsxy, hsp, hsxp] at P1
                      rw [hsz1, hsxp, hst] at P2
                      rw [hsz1, hcz] at POR
                      rw [hcz] at HLK
                      rw [hst] at hsz HRP
                      clear hu hlt hy by' hy0 hbl hnn hO hR hv hvb hcl hcl2 hgv hstep hm hns hm32 hp2 hpn hxy hxy0 hxp dxy' dx dyy hRP hz dp dxp dz ds hsy hsxy hsp hsxp hsz1 hst hcz
                      have lk := HLK.out wr (Below.refl _ _)
                      have C2 : Blk (wr.alloc (.cells #[.string cz, .string ⟨#[48]⟩] 22)) wr.heap.size #[.string cz, .string ⟨#[48]⟩] 22 := Blk.new wr #[.string cz, .string ⟨#[48]⟩] 22
                      have F2 := hid (show Below wr.heap.size wr (wr.alloc (.cells #[.string cz, .string ⟨#[48]⟩] 22)) from (Below.refl _ _).alloc (Nat.le_refl _) _)
                      have E2 := hid (bnext HBL.out F2.out)
                      go_wp2_with fail
                      refine (A2 _ hG.out.bel).out.mono ?_; rintro e w2 ⟨rfl, rfl⟩
                      go_wp2_with fail
                      refine (POR _ _ C2).out.mono ?_; rintro e w2 ⟨rfl, rfl⟩
                      clear lk C2
                      go_wp2_with fail
                      refine (A1 _ E2.out).out.mono ?_; rintro e w2 ⟨rfl, rfl⟩
                      go_wp2_with fail
                      refine (A2 _ E2.out).out.mono ?_; rintro e w2 ⟨rfl, rfl⟩
                      go_wp2_with fail
                      refine (PXY _ (LK.out _ E2.out)).out.mono ?_; rintro e w3 ⟨rfl, hb3⟩
                      have F3 := hid (bnext F2.out hb3)
                      clear hb3
                      go_wp2_with fail
                      refine (P0 _ (LK.out _ (bnext HBL.out F3.out))).out.mono ?_; rintro e w4 ⟨rfl, hb4⟩
                      have F4 := hid (bnext F3.out hb4)
                      clear hb4
                      go_wp2_with fail
                      refine (P1 _ (LK.out _ (bnext HBL.out F4.out))).out.mono ?_; rintro e w5 ⟨rfl, hb5⟩
                      have F5 := hid (bnext F4.out hb5)
                      clear hb5
                      go_wp2_with fail
                      refine (P2 _ (LK.out _ (bnext HBL.out F5.out))).out.mono ?_; rintro e w6 ⟨rfl, hb6⟩
                      have F6 := hid (bnext F5.out hb6)
                      clear hb6
                      go_wp2_with (at_mapUpdate; refine wpList_mapUpdate_own _ rfl _ _ _ 88 rfl 3 22 (int_keyed Tryz.underlying3) Tryz.underlying88 _ B nn _ rfl (HO.out.kept (row := none) ⟨F6.out.os, F6.out.tape, F6.out.output, F6.out.size, fun k hk _ => F6.out.block k hk⟩ (by simp)) (by have := HNN.out; have := HN.out; have := IL.out; have := SL.out; have := KL.out; have := UL.out; unfold maxLen; omega) _ _ _ rfl rfl hwf.out _ [] (plainElem_string Tryz.underlying22 hsz.out) ?_; intro w7 hown hgrow)
                      have OW := hid hown
                      have B7 := hid (below_map (bnext HBL.out F6.out) hgrow (by rw [HB.out]; exact Nat.le_refl _))
                      clear hown hgrow HLK
                      go_roundw
                      case rel =>
                        refine ⟨u + 1, by go_num, by have := UL.out; omega, hid ⟨B7.out, nn + 1, _, by have := HNN.out; omega, OW.out, ?_⟩⟩
                        rw [HST.out]
                        exact HRP.out
                      case measure => simp [intOf] <;> (have := UL.out; omega)
                  · have q2 : decide ((s : Int) + (u : Int) ≤ (n : Int)) = false := by simp; omega
                    have e1 : u = n - s + 1 := by have := SL.out; omega
                    have f5 : (u : Int) ≤ 100 := by have := HN.out; omega
                    subst e1
                    clear hu hlt
                    have hck := hid (c2_k N D n i s k)
                    go_wp2_with fail
                    go_roundw
                    case rel => exact ⟨k + 1, by go_num, by have := KL.out; omega, hid (hG.out.mono (by have := HN.out; omega) hck.out)⟩
                    case measure => simp [intOf] <;> (have := KL.out; omega)
              · have q0 : decide ((k : Int) < ((n + 1 : Nat) : Int)) = false := by simp; omega
                have dk : decide ((k : Int) < (n : Int) + 1) = false := by simp; omega
                have e1 : k = n + 1 := by omega
                subst e1
                clear hk hlt
                have hcs := hid (c2_s N D n i s)
                go_wp2_with fail
                go_roundw
                case rel => exact ⟨s + 1, by go_num, by have := SL.out; omega, hid (hG.out.mono (by have := HN.out; omega) hcs.out)⟩
                case measure => simp [intOf] <;> (have := SL.out; omega)
        · have q0 : decide ((s : Int) < ((n + 1 : Nat) : Int)) = false := by simp; omega
          have d30 : decide ((s : Int) < (n : Int) + 1) = false := by simp; omega
          have e1 : s = n + 1 := by omega
          subst e1
          clear hs hlt
          have hrow := hid (c2_i N D n i)
          go_wp2_with fail
          go_roundw
          case rel => exact ⟨i + 1, by go_num, by have := IL.out; omega, hid (hG.out.mono (by have := HN.out; omega) hrow.out)⟩
          case measure => simp [intOf] <;> (have := IL.out; omega)
    · have q0 : decide ((i : Int) < ((n + 1 : Nat) : Int)) = false := by simp; omega
      have di : decide ((i : Int) < (n : Int) + 1) = false := by simp; omega
      have e1 : i = n + 1 := by omega
      subst e1
      clear hi hlt
      obtain ⟨hbl, nn, Dm, h1, h2, h3⟩ := hG.out
      have HBL := hid hbl; have H1 := hid h1; have H2 := hid h2; have H3 := hid h3
      clear hbl h1 h2 h3
      go_wp2_with fail
      go_ret
      refine ⟨⟨B, nn, Dm, rfl, by rw [← HB.out]; exact B1.out.size, by have := H1.out; have := HN.out; omega, H2.out, ?_⟩, bnext B1.out HBL.out⟩
      have e2 : c2 N D n (n + 1) 0 0 0 = gV N D true n := funext fun v => c2_end HND.out n v
      rw [← e2]
      exact H3.out
end Go.Proofs.YtccalhlhdiapiaaGreatDoor
namespace Go.Proofs.YtccalhlhdiapiaaGreatDoor
open Go.RowKit
open Go.Lib (decDigits nDigits)
def cStep (L : List Nat) (i k : Nat) (m : List Nat) : List Nat := m.set (i + k) (m.getD (i + k) 0 + L.getD i 0 * L.getD k 0)
def cIn (L : List Nat) (i : Nat) : Nat → List Nat → List Nat
  | 0, m => m
  | k + 1, m => cStep L i k (cIn L i k m)
/-- The two-fold table. -/
def cOut (L : List Nat) (n : Nat) : Nat → List Nat
  | 0 => List.replicate (n + 1) 0
  | i + 1 => cIn L i (n + 1 - i) (cOut L n i)
/-- The bound behind t steps. -/
structure CB (n B t : Nat) (m : List Nat) : Prop where
  len : m.length = n + 1
  up : ∀ k, m.getD k 0 ≤ t * B
theorem getD_set (l : List Nat) {i : Nat} (hi : i < l.length) (x k : Nat) : (l.set i x).getD k 0 = if i = k then x else l.getD k 0 := by
  rw [List.getD_eq_getElem?_getD, List.getD_eq_getElem?_getD, List.getElem?_set]
  by_cases h : i = k
  · subst h; simp [hi]
  · simp [h]
theorem CB.step {L m : List Nat} {n B t i k : Nat} (h : CB n (B * B) t m) (hL : ∀ k, L.getD k 0 ≤ B) (hik : i + k ≤ n) : CB n (B * B) (t + 1) (cStep L i k m) := by
  refine ⟨by simp [cStep, h.len], fun j => ?_⟩
  have h1 := h.up j
  have h2 := h.up (i + k)
  have h3 := Nat.mul_le_mul (hL i) (hL k)
  unfold cStep
  rw [getD_set _ (by rw [h.len]; omega), Nat.succ_mul]
  split <;> omega
theorem CB.inner {L m : List Nat} {n B t i : Nat} (h : CB n (B * B) t m) (hL : ∀ k, L.getD k 0 ≤ B) : ∀ k, i + k ≤ n + 1 → CB n (B * B) (t + k) (cIn L i k m)
  | 0, _ => h
  | k + 1, hk => CB.step (CB.inner h hL k (by omega)) hL (by omega)
theorem CB.outer {L : List Nat} {n B : Nat} (hL : ∀ k, L.getD k 0 ≤ B) : ∀ i, i ≤ n + 1 → CB n (B * B) (i * (n + 1)) (cOut L n i)
  | 0, _ => ⟨by simp [cOut], fun k => by
      rw [cOut, List.getD_eq_getElem?_getD, List.getElem?_replicate]
      split <;> simp⟩
  | i + 1, hi => by
    have h0 := CB.outer (n := n) hL i (by omega)
    have h := CB.inner (i := i) h0 hL (n + 1 - i) (by omega)
    refine ⟨h.len, fun k => Nat.le_trans (h.up k) (Nat.mul_le_mul_right _ ?_)⟩
    rw [Nat.succ_mul]
    omega
theorem CB.mono {n B t t' : Nat} {m : List Nat} (h : CB n B t m) (ht : t ≤ t') : CB n B t' m := ⟨h.len, fun k => Nat.le_trans (h.up k) (Nat.mul_le_mul_right _ ht)⟩
/-- What is left behind i entries. -/
def rIn (L : List Nat) (n : Nat) : Nat → Nat
  | 0 => 2 ^ n
  | i + 1 => rIn L n i - L.getD i 0 * 2 ^ (n - i)
theorem rIn_le (L : List Nat) (n : Nat) : ∀ i, rIn L n i ≤ 2 ^ n
  | 0 => Nat.le_refl _
  | i + 1 => by have := rIn_le L n i; rw [rIn]; omega
def e3 : Nat := 300
def e7 : Nat := 700
theorem tab_bound {os zs : Nat → Bool} (h0 : os 0 = false) {n : Nat} (hn : n ≤ 256) : (tOut os zs n (n + 1)).2.length = n + 1 ∧ ∀ k, (tOut os zs n (n + 1)).2.getD k 0 ≤ 2 ^ e3 := by
  have h := TB.outer (zs := zs) h0 n (n + 1) (Nat.le_refl _)
  exact ⟨h.l2, fun k => Nat.le_trans (h.up2 k) (Nat.pow_le_pow_right (by omega) (by unfold e3; omega))⟩
theorem conv_bound {n t : Nat} (hn : n ≤ 256) (ht : t ≤ (n + 1) * (n + 1)) {x : Nat} (h : x ≤ t * (2 ^ e3 * 2 ^ e3)) : x ≤ 2 ^ e7 := by
  refine Nat.le_trans h ?_
  have h1 : t ≤ 2 ^ 20 := by
    refine Nat.le_trans ht ?_
    have : (n + 1) * (n + 1) ≤ 257 * 257 := Nat.mul_le_mul (by omega) (by omega)
    omega
  have h2 := Nat.mul_le_mul_right (2 ^ e3 * 2 ^ e3) h1
  rw [← Nat.pow_add, ← Nat.pow_add] at h2
  rw [← Nat.pow_add]
  exact Nat.le_trans h2 (Nat.pow_le_pow_right (by omega) (by unfold e3 e7; omega))
end Go.Proofs.YtccalhlhdiapiaaGreatDoor
namespace Go.Proofs.YtccalhlhdiapiaaGreatDoor
open Go.RowKit
set_option linter.unusedVariables false
set_option linter.unusedSimpArgs false
theorem tIn_a {os zs : Nat → Bool} (h0 : os 0 = false) {n i : Nat} {s : List Nat × List Nat} (h1 : s.1.length = n + 1) (h2 : s.2.length = n + 1) : ∀ j, i + j ≤ n + 1 → tIn os zs i j s = (aIn os (s.1.getD i 0) i j s.1, aIn zs (s.1.getD i 0) i j s.2)
  | 0, _ => rfl
  | j + 1, h => by
    have e : (aIn os (s.1.getD i 0) i j s.1).getD i 0 = s.1.getD i 0 := by
      rw [aIn_get h1 (by omega), if_neg (by rw [Nat.sub_self, h0]; simp), Nat.add_zero]
    rw [tIn, tIn_a h0 h1 h2 j (by omega), tStep, e, aIn, aIn]
theorem tOut_len {os zs : Nat → Bool} (h0 : os 0 = false) (n : Nat) : ∀ i, i ≤ n + 1 → (tOut os zs n i).1.length = n + 1 ∧ (tOut os zs n i).2.length = n + 1 := fun i hi => by
  have h := TB.outer (os := os) (zs := zs) h0 n i hi
  exact ⟨h.l1, h.l2⟩
theorem tOut_next {os zs : Nat → Bool} (h0 : os 0 = false) {n i : Nat} (hi : i ≤ n) : tOut os zs n (i + 1) = (aIn os ((tOut os zs n i).1.getD i 0) i (n + 1 - i) (tOut os zs n i).1, aIn zs ((tOut os zs n i).1.getD i 0) i (n + 1 - i) (tOut os zs n i).2) := by
  obtain ⟨l1, l2⟩ := tOut_len (os := os) (zs := zs) h0 n i (by omega)
  rw [tOut]
  split
  · rename_i hz
    rw [hz, aIn_zero, aIn_zero]
  · exact tIn_a h0 l1 l2 _ (by omega)
/-- What stands at a place when it is the source. -/
def uT (os zs : Nat → Bool) (n i : Nat) : Nat := (tOut os zs n i).1.getD i 0
theorem tOut_get {os zs : Nat → Bool} (h0 : os 0 = false) {n : Nat} : ∀ {i : Nat}, i ≤ n + 1 → ∀ k, k ≤ n →
    (tOut os zs n i).1.getD k 0 = dlt k + sumN (fun i' => if i' ≤ k ∧ os (k - i') = true then uT os zs n i' else 0) i ∧
    (tOut os zs n i).2.getD k 0 = sumN (fun i' => if i' ≤ k ∧ zs (k - i') = true then uT os zs n i' else 0) i
  | 0, _, k, hk => by
    constructor
    · rw [tOut]
      unfold dlt
      cases k with
      | zero => rfl
      | succ k => simp [sumN, List.getD_eq_getElem?_getD, List.getElem?_replicate, show k < n by omega]
    · rw [tOut]
      simp [sumN, List.getD_eq_getElem?_getD, List.getElem?_replicate, show k < n + 1 by omega]
  | i + 1, h, k, hk => by
    obtain ⟨l1, l2⟩ := tOut_len (os := os) (zs := zs) h0 n i (by omega)
    obtain ⟨g1, g2⟩ := tOut_get h0 (n := n) (i := i) (os := os) (zs := zs) (by omega) k hk
    have e : ∀ c : Nat → Bool, (if i ≤ k ∧ k < i + (n + 1 - i) ∧ c (k - i) = true then (tOut os zs n i).1.getD i 0 else 0) = if i ≤ k ∧ c (k - i) = true then uT os zs n i else 0 := fun c => by
      by_cases hc : i ≤ k ∧ c (k - i) = true
      · rw [if_pos hc, if_pos ⟨hc.1, by omega, hc.2⟩]; rfl
      · rw [if_neg hc, if_neg (fun hh => hc ⟨hh.1, hh.2.2⟩)]
    rw [tOut_next h0 (by omega)]
    dsimp only
    rw [aIn_get l1 (by omega), aIn_get l2 (by omega), g1, g2, sumN, sumN, e, e]
    exact ⟨by omega, rfl⟩
theorem sum_upto {c : Nat → Bool} {f : Nat → Nat} {k : Nat} : ∀ {m : Nat}, k + 1 ≤ m → sumN (fun i' => if i' ≤ k ∧ c (k - i') = true then f i' else 0) m = cvo (chi c) f k := fun {m} hm => by
  rw [cvo_comm]
  unfold cvo
  obtain ⟨d, rfl⟩ : ∃ d, m = k + 1 + d := ⟨m - (k + 1), by omega⟩
  have e : ∀ d, sumN (fun i' => if i' ≤ k ∧ c (k - i') = true then f i' else 0) (k + 1 + d) = sumN (fun i' => if i' ≤ k ∧ c (k - i') = true then f i' else 0) (k + 1) := fun d => by
    induction d with
    | zero => rfl
    | succ d ih => rw [← Nat.add_assoc, sumN, ih, if_neg (by omega)]; rfl
  rw [e]
  refine sumN_congr fun i hi => ?_
  unfold chi
  by_cases hc : c (k - i) = true
  · rw [if_pos ⟨by omega, hc⟩, if_pos hc, Nat.mul_one]
  · rw [if_neg (fun h => hc h.2), if_neg hc, Nat.mul_zero]
/-- The renewal. -/
theorem uT_eq {os zs : Nat → Bool} (h0 : os 0 = false) {n k : Nat} (hk : k ≤ n) : uT os zs n k = dlt k + cvo (chi os) (uT os zs n) k := by
  have h := (tOut_get (zs := zs) h0 (n := n) (i := k) (by omega) k hk).1
  rw [← sum_upto (m := k + 1) (Nat.le_refl _), sumN, if_neg (by rw [Nat.sub_self, h0]; simp), Nat.add_zero]
  exact h
/-- The totals. -/
theorem tot_eq {os zs : Nat → Bool} (h0 : os 0 = false) {n k : Nat} (hk : k ≤ n) : (tOut os zs n (n + 1)).2.getD k 0 = cvo (chi zs) (uT os zs n) k := by
  rw [(tOut_get (os := os) (zs := zs) h0 (n := n) (Nat.le_refl _) k hk).2, sum_upto (by omega)]
theorem cvo_add (f g h : Nat → Nat) (n : Nat) : cvo (fun m => f m + g m) h n = cvo f h n + cvo g h n := by
  unfold cvo
  rw [← sumN_add]
  exact sumN_congr fun i _ => Nat.add_mul _ _ _
/-- One equation, one solution. -/
theorem renewal {c : Nat → Bool} (h0 : c 0 = false) {F G R : Nat → Nat} {n : Nat} (hF : ∀ m, m ≤ n → F m = cvo (chi c) F m + R m) (hG : ∀ m, m ≤ n → G m = cvo (chi c) G m + R m) : ∀ m, m ≤ n → F m = G m := by
  intro m
  induction m using Nat.strongRecOn with
  | ind m ih =>
    intro hm
    rw [hF m hm, hG m hm]
    congr 1
    unfold cvo
    rw [sumN_shift, sumN_shift]
    have e : chi c 0 = 0 := by unfold chi; rw [h0]; rfl
    rw [e, Nat.zero_mul, Nat.zero_mul]
    congr 1
    refine sumN_congr fun i hi => ?_
    rw [ih (m - (i + 1)) (by omega) (by omega)]
/-- A series ends at all; two do. -/
def decP (N D : Nat) (l : List UInt8) : Bool := (s1 N D l 0 0).isSome
def dec2P (N D : Nat) (l : List UInt8) : Bool := match s1 N D l 0 0 with | none => false | some (_, p) => decP N D (l.drop p)
theorem decP_coin {N D : Nat} (h : N < D) (l : List UInt8) : decP N D l = coinP N D 0 1 (decP N D) (fun _ => true) l := by
  unfold coinP
  rw [decP, s1_coin h]
  cases hd : (toss N D 0 1 l).1
  · rfl
  · rw [if_pos rfl, Bool.true_and]
    by_cases hv : (toss N D 0 1 l).2.1 = 1
    · rw [if_pos hv, if_pos hv]
      show _ = decP N D (l.drop (toss N D 0 1 l).2.2)
      rw [decP]
      cases s1 N D (l.drop (toss N D 0 1 l).2.2) 0 0 <;> rfl
    · rw [if_neg hv, if_neg hv]; rfl
theorem dec2P_coin {N D : Nat} (h : N < D) (l : List UInt8) : dec2P N D l = coinP N D 0 1 (dec2P N D) (decP N D) l := by
  unfold coinP
  rw [dec2P, s1_coin h]
  cases hd : (toss N D 0 1 l).1
  · rfl
  · rw [if_pos rfl, Bool.true_and]
    by_cases hv : (toss N D 0 1 l).2.1 = 1
    · rw [if_pos hv, if_pos hv]
      show _ = dec2P N D (l.drop (toss N D 0 1 l).2.2)
      rw [dec2P]
      cases s1 N D (l.drop (toss N D 0 1 l).2.2) 0 0 with
      | none => rfl
      | some x => simp [List.drop_drop]
    · rw [if_neg hv, if_neg hv]
section
variable {N D : Nat} (h : N < D) (n : Nat)
include h
/-- The function of the totals. -/
theorem tot_dec {m : Nat} (hm : m ≤ n) : cvo (fun k => (tOut (oneJ N D) (zeroJ N D) n (n + 1)).2.getD k 0) pw2 m = cw m (decP N D) := by
  have o0 : oneJ N D 0 = false := rfl
  have hL : ∀ m, m ≤ n → cvo (fun k => (tOut (oneJ N D) (zeroJ N D) n (n + 1)).2.getD k 0) pw2 m = cvo (uT (oneJ N D) (zeroJ N D) n) (cvo (chi (zeroJ N D)) pw2) m := fun m hm => by
    rw [cvo_congr (f' := cvo (chi (zeroJ N D)) (uT (oneJ N D) (zeroJ N D) n)) (g' := pw2) (fun s hs => tot_eq o0 (by omega)) (fun _ _ => rfl), cvo_assoc, cvo_swap]
  refine renewal (c := oneJ N D) (F := cvo (fun k => (tOut (oneJ N D) (zeroJ N D) n (n + 1)).2.getD k 0) pw2) (G := fun m => cw m (decP N D)) o0 (R := cvo (chi (zeroJ N D)) pw2) (n := n) (fun m hm => ?_) (fun m hm => ?_) m hm
  · rw [hL m hm, cvo_congr (f' := fun k => dlt k + cvo (chi (oneJ N D)) (uT (oneJ N D) (zeroJ N D) n) k) (g' := cvo (chi (zeroJ N D)) pw2) (fun s hs => uT_eq o0 (by omega)) (fun _ _ => rfl), cvo_add, cvo_dlt, cvo_assoc, Nat.add_comm]
    congr 1
    exact cvo_congr (fun _ _ => rfl) fun s hs => (hL s (by omega)).symm
  · rw [cw_congr (Q := coinP N D 0 1 (decP N D) (fun _ => true)) (fun l _ => decP_coin h l), cw_first h]
    congr 1
    exact cvo_congr (fun _ _ => rfl) fun s _ => cw_true s
theorem tot_dec2 {m : Nat} (hm : m ≤ n) : cvo (cvo (fun k => (tOut (oneJ N D) (zeroJ N D) n (n + 1)).2.getD k 0) (fun k => (tOut (oneJ N D) (zeroJ N D) n (n + 1)).2.getD k 0)) pw2 m = cw m (dec2P N D) := by
  have o0 : oneJ N D 0 = false := rfl
  have hT : ∀ s, s ≤ n → (tOut (oneJ N D) (zeroJ N D) n (n + 1)).2.getD s 0 = cvo (chi (zeroJ N D)) (uT (oneJ N D) (zeroJ N D) n) s := fun s hs => tot_eq o0 hs
  have hL : ∀ m, m ≤ n → cvo (cvo (fun k => (tOut (oneJ N D) (zeroJ N D) n (n + 1)).2.getD k 0) (fun k => (tOut (oneJ N D) (zeroJ N D) n (n + 1)).2.getD k 0)) pw2 m = cvo (uT (oneJ N D) (zeroJ N D) n) (cvo (chi (zeroJ N D)) (fun k => cw k (decP N D))) m := fun m hm => by
    rw [cvo_assoc, cvo_congr (f' := cvo (chi (zeroJ N D)) (uT (oneJ N D) (zeroJ N D) n)) (g' := fun k => cw k (decP N D)) (fun s hs => hT s (by omega)) (fun s hs => tot_dec h n (by omega)), cvo_assoc, cvo_swap]
  refine renewal (c := oneJ N D) (F := cvo (cvo (fun k => (tOut (oneJ N D) (zeroJ N D) n (n + 1)).2.getD k 0) (fun k => (tOut (oneJ N D) (zeroJ N D) n (n + 1)).2.getD k 0)) pw2) (G := fun m => cw m (dec2P N D)) o0 (R := cvo (chi (zeroJ N D)) (fun k => cw k (decP N D))) (n := n) (fun m hm => ?_) (fun m hm => ?_) m hm
  · rw [hL m hm, cvo_congr (f' := fun k => dlt k + cvo (chi (oneJ N D)) (uT (oneJ N D) (zeroJ N D) n) k) (g' := cvo (chi (zeroJ N D)) (fun k => cw k (decP N D))) (fun s hs => uT_eq o0 (by omega)) (fun _ _ => rfl), cvo_add, cvo_dlt, cvo_assoc, Nat.add_comm]
    congr 1
    exact cvo_congr (fun _ _ => rfl) fun s hs => (hL s (by omega)).symm
  · rw [cw_congr (Q := coinP N D 0 1 (dec2P N D) (decP N D)) (fun l _ => dec2P_coin h l), cw_first h]
end
theorem cw_not (P : List UInt8 → Bool) : ∀ n, cw n P + cw n (fun l => !P l) = 2 ^ n := fun n => by
  rw [← cw_all, ← cw_all, ← allW_length]
  have : ∀ L : List (List UInt8), L.countP P + L.countP (fun l => !P l) = L.length := fun L => by
    induction L with
    | nil => rfl
    | cons a r ih =>
      simp only [List.countP_cons, List.length_cons]
      cases P a <;> simp <;> omega
  exact this _
theorem gL_dec (N D n : Nat) : gL N D false n = 2 ^ n - cw n (decP N D) := by
  have h := cw_not (decP N D) n
  have e : gL N D false n = cw n (fun l => !decP N D l) := cw_congr fun l _ => by
    rw [Bool.eq_iff_iff, decide_eq_true_iff]
    unfold valT decP
    cases s1 N D l 0 0 <;> simp
  omega
theorem gL_dec2 (N D n : Nat) : gL N D true n = 2 ^ n - cw n (dec2P N D) := by
  have h := cw_not (dec2P N D) n
  have e : gL N D true n = cw n (fun l => !dec2P N D l) := cw_congr fun l _ => by
    rw [Bool.eq_iff_iff, decide_eq_true_iff]
    unfold valT dec2P decP
    cases s1 N D l 0 0 with
    | none => simp
    | some xp =>
      simp only [if_true]
      cases s1 N D (l.drop xp.2) 0 0 <;> simp
  omega
/-- What is left, by its sum. -/
theorem rIn_sum {L : List Nat} {n : Nat} (h : sumN (fun i => L.getD i 0 * 2 ^ (n - i)) (n + 1) ≤ 2 ^ n) : ∀ i, i ≤ n + 1 → rIn L n i = 2 ^ n - sumN (fun i => L.getD i 0 * 2 ^ (n - i)) i
  | 0, _ => by simp [rIn, sumN]
  | i + 1, hi => by
    have := sumN_mono (f := fun i => L.getD i 0 * 2 ^ (n - i)) hi
    rw [rIn, rIn_sum h i (by omega), sumN]; omega
theorem rIn_ok {L : List Nat} {n : Nat} (h : sumN (fun i => L.getD i 0 * 2 ^ (n - i)) (n + 1) ≤ 2 ^ n) : ∀ i, i ≤ n → L.getD i 0 * 2 ^ (n - i) ≤ rIn L n i := fun i hi => by
  have h1 := sumN_mono (f := fun i => L.getD i 0 * 2 ^ (n - i)) (show i + 1 ≤ n + 1 by omega)
  rw [sumN] at h1
  rw [rIn_sum h i (by omega)]; omega
/-- The table of two. -/
theorem cIn_len (L : List Nat) (i : Nat) : ∀ (k : Nat) (m : List Nat), (cIn L i k m).length = m.length
  | 0, _ => rfl
  | k + 1, m => by rw [cIn, cStep, List.length_set, cIn_len L i k m]
theorem cOut_len (L : List Nat) (n : Nat) : ∀ i, (cOut L n i).length = n + 1
  | 0 => by simp [cOut]
  | i + 1 => by rw [cOut, cIn_len, cOut_len L n i]
theorem cIn_get {L m : List Nat} {i n : Nat} (hl : m.length = n + 1) : ∀ {k : Nat}, i + k ≤ n + 1 → ∀ j, (cIn L i k m).getD j 0 = m.getD j 0 + (if i ≤ j ∧ j < i + k then L.getD i 0 * L.getD (j - i) 0 else 0)
  | 0, _, j => by rw [cIn, if_neg (by omega)]; rfl
  | k + 1, h, j => by
    rw [cIn, cStep, getD_set _ (by rw [cIn_len]; omega), cIn_get hl (by omega), cIn_get hl (by omega)]
    by_cases hj : i + k = j
    · subst hj
      rw [if_pos rfl, if_neg (by omega), if_pos (by omega), show i + k - i = k by omega]; omega
    · rw [if_neg hj]
      congr 1
      by_cases hc : i ≤ j ∧ j < i + k
      · rw [if_pos hc, if_pos (by omega)]
      · rw [if_neg hc, if_neg (by omega)]
theorem cOut_get {L : List Nat} {n : Nat} : ∀ {i : Nat}, i ≤ n + 1 → ∀ j, j ≤ n → (cOut L n i).getD j 0 = sumN (fun i' => if i' ≤ j then L.getD i' 0 * L.getD (j - i') 0 else 0) i
  | 0, _, j, hj => by simp [cOut, sumN, List.getD_eq_getElem?_getD, List.getElem?_replicate, show j < n + 1 by omega]
  | i + 1, h, j, hj => by
    rw [cOut, cIn_get (cOut_len L n i) (by omega), cOut_get (by omega) j hj, sumN]
    congr 1
    by_cases hc : i ≤ j
    · rw [if_pos hc, if_pos (by omega)]
    · rw [if_neg hc, if_neg (by omega)]
theorem cOut_all {L : List Nat} {n j : Nat} (hj : j ≤ n) : (cOut L n (n + 1)).getD j 0 = cvo (fun k => L.getD k 0) (fun k => L.getD k 0) j := by
  rw [cOut_get (Nat.le_refl _) j hj]
  unfold cvo
  obtain ⟨d, hd⟩ : ∃ d, n + 1 = j + 1 + d := ⟨n - j, by omega⟩
  rw [hd]
  have e : ∀ d, sumN (fun i' => if i' ≤ j then L.getD i' 0 * L.getD (j - i') 0 else 0) (j + 1 + d) = sumN (fun i' => if i' ≤ j then L.getD i' 0 * L.getD (j - i') 0 else 0) (j + 1) := fun d => by
    induction d with
    | zero => rfl
    | succ d ih => rw [← Nat.add_assoc, sumN, ih, if_neg (by omega)]; rfl
  rw [e]
  exact sumN_congr fun i hi => if_pos (by omega)
end Go.Proofs.YtccalhlhdiapiaaGreatDoor
namespace Go.Proofs.YtccalhlhdiapiaaGreatDoor
open Go.RowKit Go.Shelf
open Go.Lib (decDigits nDigits)
set_option linter.unusedVariables false
set_option linter.unusedSimpArgs false
/-- A draw as a value. -/
def d3 (t : Bool × Int × Int) : Value := .agg #[.bool t.1, .int .i64 t.2.1, .int .i64 t.2.2]
/-- What one series gives; two. -/
def oneT (N D : Nat) (l : List UInt8) : Bool × Int × Int := match s1 N D l 0 0 with
  | none => (false, 0, (l.length : Nat))
  | some (x, p) => (true, (x : Nat), (p : Nat))
def twoT (N D : Nat) (l : List UInt8) : Bool × Int × Int := match s1 N D l 0 0 with
  | none => (false, 0, (l.length : Nat))
  | some (x, p) => match s1 N D l p 0 with
    | none => (false, 0, (l.length : Nat))
    | some (y, q) => (true, (x : Int) - (y : Int), (q : Nat))
def oT (a b : ByteArray) : Bool × Int × Int := if gE a b = 0 then oneT (bN (cW a)) (bN (qD a)) b.data.toList else (false, 0, 0)
def wT (a b : ByteArray) : Bool × Int × Int := if gE a b = 0 then twoT (bN (cW a)) (bN (qD a)) b.data.toList else (false, 0, 0)
theorem chk_size {b : ByteArray} (h : chkE b = 0) : b.size ≤ 256 := by
  have h5 := (bit_drop h 0).2.1
  have h6 := list_size (b.extract 0 b.size)
  have h7 := (bit_drop h 0).2.2
  rw [h5, List.drop_zero, list_size] at h6
  omega
theorem g_draw1 (w : World) (a b : ByteArray) (ha : a.size ≤ 100000) (hb : b.size ≤ 100000) (hL : Lay w) :
    Calls Tryz.prog 53 #[.string a, .string b, .int .i64 1] w fun e w' => e = .returned (.tuple #[d3 (oT a b), .int .i64 (gE a b)]) ∧ Below w.heap.size w w' := by
  by_cases he : gE a b = 0
  · have hs := chk_size (gE_ok he).2
    have hND := (gPE_ok (gE_ok he).1).2
    have hl : b.data.toList.length = b.size := list_size b
    have h1 := sr_one_eq hND (l := b.data.toList) b.data.toList.length 0 [] 0 (Nat.zero_le _) (by omega)
    rw [oT, if_pos he, oneT, he]
    cases hS : s1 (bN (cW a)) (bN (qD a)) b.data.toList 0 0 with
    | none =>
      rw [hS] at h1
      refine (g_draw_none w a b 1 (by omega) (by omega) ha hb he hL h1).mono fun e w' h => ?_
      rw [h.1]
      exact ⟨by rw [hl]; rfl, h.2⟩
    | some y =>
      obtain ⟨x, p⟩ := y
      rw [hS] at h1
      have h2 := s1_le hND b.data.toList.length 0 0 x p (Nat.zero_le _) (by omega) hS
      exact g_draw_one w a b x p (by omega) (by omega) ha hb he hL h1
  · rw [oT, if_neg he]
    exact g_draw_bad w a b 1 ha hb he hL
theorem g_draw2 (w : World) (a b : ByteArray) (ha : a.size ≤ 100000) (hb : b.size ≤ 100000) (hL : Lay w) :
    Calls Tryz.prog 53 #[.string a, .string b, .int .i64 2] w fun e w' => e = .returned (.tuple #[d3 (wT a b), .int .i64 (gE a b)]) ∧ Below w.heap.size w w' := by
  by_cases he : gE a b = 0
  · have hs := chk_size (gE_ok he).2
    have hND := (gPE_ok (gE_ok he).1).2
    have hl : b.data.toList.length = b.size := list_size b
    have h1 := sr_two hND (l := b.data.toList) b.data.toList.length 0 [] 0 (Nat.zero_le _) (by omega)
    rw [wT, if_pos he, twoT, he]
    cases hS : s1 (bN (cW a)) (bN (qD a)) b.data.toList 0 0 with
    | none =>
      rw [hS] at h1
      refine (g_draw_none w a b 2 (by omega) (by omega) ha hb he hL h1).mono fun e w' h => ?_
      rw [h.1]
      exact ⟨by rw [hl]; rfl, h.2⟩
    | some y =>
      obtain ⟨x, p⟩ := y
      rw [hS] at h1
      have h2 := s1_le hND b.data.toList.length 0 0 x p (Nat.zero_le _) (by omega) hS
      have h3 := sr_one_eq hND (l := b.data.toList) b.data.toList.length p ([] ++ [x]) 0 h2.2.1 (by omega)
      dsimp only at h1 ⊢
      rw [h3] at h1
      cases hT : s1 (bN (cW a)) (bN (qD a)) b.data.toList p 0 with
      | none =>
        rw [hT] at h1
        refine (g_draw_none w a b 2 (by omega) (by omega) ha hb he hL h1).mono fun e w' h => ?_
        rw [h.1]
        exact ⟨by rw [hl]; rfl, h.2⟩
      | some z =>
        obtain ⟨y, q⟩ := z
        rw [hT] at h1
        have h4 := s1_le hND b.data.toList.length p 0 y q h2.2.1 (by omega) hT
        exact g_draw_two w a b x y q (by omega) (by omega) (by omega) ha hb he hL h1
  · rw [wT, if_neg he]
    exact g_draw_bad w a b 2 ha hb he hL
set_option maxRecDepth 100000 in
set_option maxHeartbeats 1000000 in
theorem g_One (w : World) (a b : ByteArray) (ha : a.size ≤ 100000) (hb : b.size ≤ 100000) (hL : Lay w) :
    Calls Tryz.prog 26 #[.string a, .string b] w fun e w' => e = .returned (.tuple #[d3 (oT a b), .int .i64 (gE a b)]) ∧ Below w.heap.size w w' := by
  have HC := fun V hV => hid (g_draw1 V a b ha hb hV)
  obtain ⟨t, ht⟩ : ∃ t, oT a b = t := ⟨_, rfl⟩
  obtain ⟨x, hx⟩ : ∃ x, gE a b = x := ⟨_, rfl⟩
  rw [ht, hx] at HC
  rw [ht, hx]
  obtain ⟨d, v, u⟩ := t
  simp only [d3] at HC
  have HL := hid hL
  have b0 := hid ((Below.refl w.heap.size w).alloc (Nat.le_refl _) (.cells #[.bool false, .int .i64 0, .int .i64 0] 46))
  have x0 := hid (Blk.new w #[.bool false, .int .i64 0, .int .i64 0] 46)
  clear ha hb hL hx ht
  go_enter Tryz.func26, Tryz.ntmps26
  go_wp2_with fail
  refine (HC _ (HL.out.call b0.out)).out.mono ?_; rintro e w2 ⟨rfl, hb2⟩
  have b2 := hid (bnext b0.out hb2); have x2 := hid (x0.out.call hb2)
  have r0 : w2.cell? ⟨w.heap.size, 0, none⟩ = some (.bool false) := x2.out.cell 0
  have r1 : w2.cell? ⟨w.heap.size, 1, none⟩ = some (.int .i64 0) := x2.out.cell 1
  have r2 : w2.cell? ⟨w.heap.size, 2, none⟩ = some (.int .i64 0) := x2.out.cell 2
  have f0 := x2.out.free 0
  have f1 := x2.out.free 1
  have f2 := x2.out.free 2
  clear hb2
  go_wp2_with fail
  have s3 := ((x2.out.set 0 (.bool d)).set 1 (.int .i64 v)).set 2 (.int .i64 u)
  have k0 := s3.cell 0
  have k1 := s3.cell 1
  have k2 := s3.cell 2
  simp at k0 k1 k2
  refine bodyPost_ret (v := .tuple #[.agg #[.bool d, .int .i64 v, .int .i64 u], .int .i64 x]) (by simp [results, Tryz.results26, go_sem, k0, k1, k2]) rfl ⟨rfl, ?_⟩
  exact ((b2.out.setCell (Nat.le_refl _) _).setCell (Nat.le_refl _) _).setCell (Nat.le_refl _) _
set_option maxRecDepth 100000 in
set_option maxHeartbeats 1000000 in
theorem g_Two (w : World) (a b : ByteArray) (ha : a.size ≤ 100000) (hb : b.size ≤ 100000) (hL : Lay w) :
    Calls Tryz.prog 27 #[.string a, .string b] w fun e w' => e = .returned (.tuple #[d3 (wT a b), .int .i64 (gE a b)]) ∧ Below w.heap.size w w' := by
  have HC := fun V hV => hid (g_draw2 V a b ha hb hV)
  obtain ⟨t, ht⟩ : ∃ t, wT a b = t := ⟨_, rfl⟩
  obtain ⟨x, hx⟩ : ∃ x, gE a b = x := ⟨_, rfl⟩
  rw [ht, hx] at HC
  rw [ht, hx]
  obtain ⟨d, v, u⟩ := t
  simp only [d3] at HC
  have HL := hid hL
  have b0 := hid ((Below.refl w.heap.size w).alloc (Nat.le_refl _) (.cells #[.bool false, .int .i64 0, .int .i64 0] 46))
  have x0 := hid (Blk.new w #[.bool false, .int .i64 0, .int .i64 0] 46)
  clear ha hb hL hx ht
  go_enter Tryz.func27, Tryz.ntmps27
  go_wp2_with fail
  refine (HC _ (HL.out.call b0.out)).out.mono ?_; rintro e w2 ⟨rfl, hb2⟩
  have b2 := hid (bnext b0.out hb2); have x2 := hid (x0.out.call hb2)
  have r0 : w2.cell? ⟨w.heap.size, 0, none⟩ = some (.bool false) := x2.out.cell 0
  have r1 : w2.cell? ⟨w.heap.size, 1, none⟩ = some (.int .i64 0) := x2.out.cell 1
  have r2 : w2.cell? ⟨w.heap.size, 2, none⟩ = some (.int .i64 0) := x2.out.cell 2
  have f0 := x2.out.free 0
  have f1 := x2.out.free 1
  have f2 := x2.out.free 2
  clear hb2
  go_wp2_with fail
  have s3 := ((x2.out.set 0 (.bool d)).set 1 (.int .i64 v)).set 2 (.int .i64 u)
  have k0 := s3.cell 0
  have k1 := s3.cell 1
  have k2 := s3.cell 2
  simp at k0 k1 k2
  refine bodyPost_ret (v := .tuple #[.agg #[.bool d, .int .i64 v, .int .i64 u], .int .i64 x]) (by simp [results, Tryz.results27, go_sem, k0, k1, k2]) rfl ⟨rfl, ?_⟩
  exact ((b2.out.setCell (Nat.le_refl _) _).setCell (Nat.le_refl _) _).setCell (Nat.le_refl _) _
end Go.Proofs.YtccalhlhdiapiaaGreatDoor
namespace Go.Proofs.YtccalhlhdiapiaaGreatDoor
open Go.RowKit Go.Shelf
open Go.Lib (decDigits nDigits)
set_option linter.unusedVariables false
set_option linter.unusedSimpArgs false
/-- A word as a text. -/
def tb (l : List UInt8) : ByteArray := ⟨l.toArray⟩
end Go.Proofs.YtccalhlhdiapiaaGreatDoor
namespace Go.Proofs.YtccalhlhdiapiaaGreatDoor
open Go.RowKit
open Go.Lib (decDigits nDigits)
set_option linter.unusedVariables false
set_option linter.unusedSimpArgs false
/-- A row of the call's own, of n + 1 numbers. -/
def OwnR (w : World) (H n : Nat) (v : Value) (l : List Nat) : Prop := ∃ g, v = .slice (some ⟨g, 0, none⟩) (n + 1) (n + 1) ∧ H ≤ g ∧ NRowT w g l
/-- The table that late takes: of one series, or of two. -/
def lateL (two : Bool) (L : List Nat) (n : Nat) : List Nat := if two = true then cOut L n (n + 1) else L
set_option maxRecDepth 100000 in
set_option maxHeartbeats 8000000 in
theorem g_late (w : World) (a : ByteArray) (n N D : Nat) (two : Bool) (ha : a.size ≤ 100000) (he : gPE a = 0) (hn : n ≤ 256) (hN : bN (cW a) = N) (hD : bN (qD a) = D) (hND : N < D) (hL : Lay w)
    (hR : ∀ i, i ≤ n → (lateL two (tOut (oneJ N D) (zeroJ N D) n (n + 1)).2 n).getD i 0 * 2 ^ (n - i) ≤ rIn (lateL two (tOut (oneJ N D) (zeroJ N D) n (n + 1)).2 n) n i) :
    Calls Tryz.prog 31 #[.string a, .int .i64 n, .bool two] w fun e w' => e = .returned (.tuple #[.string (outB (qmk false (rIn (lateL two (tOut (oneJ N D) (zeroJ N D) n (n + 1)).2 n) n (n + 1)) (2 ^ n))), .int .i64 0]) ∧ Below w.heap.size w w' := by
  have HA := hid (g_ratio w a ha hL)
  rw [if_pos he, if_pos he, he] at HA
  have HT := fun V hV => hid (g_totals V a n N D ha he (by omega) hN hD hND hV)
  have HRep := fun V g h => hid (s_Repeat V g (n + 1) ⟨#[48]⟩ (by omega) (by omega) h)
  have hLb := tab_bound (os := oneJ N D) (zs := zeroJ N D) rfl hn
  obtain ⟨L, hL0⟩ : ∃ L, (tOut (oneJ N D) (zeroJ N D) n (n + 1)).2 = L := ⟨_, rfl⟩
  have HLQ := hid hL0
  rw [hL0] at hLb hR ⊢
  have HLb := hid hLb
  have hM : (lateL two L n).length = n + 1 ∧ ∀ k, (lateL two L n).getD k 0 ≤ 2 ^ e7 := by
    unfold lateL
    split
    · have h := CB.outer hLb.2 (n + 1) (Nat.le_refl (n + 1))
      exact ⟨h.len, fun k => conv_bound hn (Nat.le_refl _) (h.up k)⟩
    · exact ⟨hLb.1, fun k => Nat.le_trans (hLb.2 k) (Nat.pow_le_pow_right (by omega) (by unfold e3 e7; omega))⟩
  obtain ⟨M, hM0⟩ : ∃ M, lateL two L n = M := ⟨_, rfl⟩
  have HMQ := hid hM0
  rw [hM0] at hM hR ⊢
  have HMb := hid hM; have HR := hid hR
  have hmk := mk_num (a := rIn M n (n + 1)) (b := 2 ^ n) (two_pow_digits (rIn_le M n _) (by omega)) (two_pow_digits (Nat.le_refl _) (by omega)) (by have := Nat.pow_pos (n := n) (show 0 < 2 by omega); omega)
  have hov : ¬ ovQ (qmk false (rIn M n (n + 1)) (2 ^ n)) := by
    have hd : 0 < 2 ^ n := Nat.pow_pos (by omega)
    unfold ovQ
    rw [qmk_num hd, qmk_den hd, sgn_natAbs]
    have h1 := nDigits_mono (Nat.div_le_self (rIn M n (n + 1)) (Nat.gcd (rIn M n (n + 1)) (2 ^ n)))
    have h2 := nDigits_mono (Nat.div_le_self (2 ^ n) (Nat.gcd (rIn M n (n + 1)) (2 ^ n)))
    have h3 := two_pow_digits (rIn_le M n (n + 1)) (by omega)
    have h4 := two_pow_digits (Nat.le_refl (2 ^ n)) (by omega)
    omega
  have HQM := fun V hV => hid (q_Make V (numB (rIn M n (n + 1))) (numB (2 ^ n)) (numB_sz (two_pow_digits (rIn_le M n _) (by omega))) (numB_sz (two_pow_digits (Nat.le_refl _) (by omega))) hV)
  rw [hmk.1, hmk.2, outE_ok hov] at HQM
  obtain ⟨out, hout⟩ : ∃ o, outB (qmk false (rIn M n (n + 1)) (2 ^ n)) = o := ⟨_, rfl⟩
  rw [hout] at HQM ⊢
  have HLy := hid hL; have HLL := hid hL.lt; have HN := hid hn
  have wn : IntKind.i64.wrap ((n : Int) + 1) = ((n + 1 : Nat) : Int) := by rw [IntWalk.i64_in _ ⟨by omega, by omega⟩]; omega
  have q0 : decide ((n : Int) < 0) = false := by simp
  have q1 : decide ((256 : Int) < (n : Int)) = false := by simp; omega
  have n256 : (n : Int) ≤ 256 := by omega
  clear ha he hn hN hD hND hL hR hLb hL0 hM hM0 hmk hov hout
  go_enter Tryz.func31, Tryz.ntmps31
  go_wp2_with fail
  refine HA.out.mono ?_; rintro e w1 ⟨rfl, hb1⟩
  have B1 := hid hb1
  clear hb1 HA
  go_wp2_with fail
  refine (HT _ (HLy.out.call B1.out)).out.mono ?_; rintro e w2 ⟨⟨g11, rfl, h11, hr11⟩, hb2⟩
  rw [HLQ.out] at hr11
  have R11 := hid hr11; have B2 := hid (bnext B1.out hb2); have K11 := hid (show w.heap.size ≤ g11 from Nat.le_trans B1.out.size h11)
  clear h11 hr11 hb2 HT
  go_upto_if 38 with fail
  go_cut [11] (fun s11 wx => OwnR wx w.heap.size n s11 M ∧ Below w.heap.size w wx)
  case first =>
    cases two
    · go_wp2_with fail
      go_meet
      exact ⟨⟨g11, rfl, K11.out, by rw [← HMQ.out]; exact R11.out⟩, B2.out⟩
    · go_wp2_with fail
      refine (HRep _ _ ((Blk.new w2 _ _).cell 0)).out.mono ?_; rintro e w3 ⟨rfl, hg8, hb3⟩
      obtain ⟨g12, h8⟩ : ∃ g, (w2.alloc (.cells #[.string ⟨#[48]⟩] 22)).heap.size = g := ⟨_, rfl⟩
      rw [h8] at hg8 ⊢
      have R12 := hid (NRowT.zeros hg8)
      have a2 := (Below.refl w2.heap.size w2).alloc (Nat.le_refl _) (.cells #[.string ⟨#[48]⟩] 22)
      have b3 := hid (bnext a2 hb3)
      have B3 := hid (bnext B2.out b3.out); have R113 := hid (R11.out.call b3.out)
      have K12 := hid (show w.heap.size ≤ g12 by rw [← h8]; have := B2.out.size; simp; omega)
      have NE := hid (show g11 ≠ g12 by have := R11.out.lt; rw [← h8]; simp; omega)
      clear hg8 hb3 a2 h8 HRep b3
      have hc0 := hid (show NRowT w3 g12 (cOut L n 0) from R12.out)
      go_wp2_with fail
      go_loopw [45] (fun ii wr => ∃ i : Nat, ii = .int .i64 (i : Nat) ∧ i ≤ n + 1 ∧ Hid (NRowT wr g12 (cOut L n i)) ∧ Hid (NRowT wr g11 L) ∧ Hid (Below w.heap.size w wr)) (fun ii wr => n + 1 - (intOf ii).toNat)
      case atStart => exact ⟨0, rfl, Nat.zero_le _, hc0, R113, B3⟩
      case round =>
        obtain ⟨i, rfl, hi, hg12, hg11, hB⟩ := hrel
        by_cases hlt : i < n + 1
        · have q5 : decide ((i : Int) < ((n + 1 : Nat) : Int)) = true := by simp; omega
          have f0 : (0 : Int) ≤ (i : Int) := by omega
          have f1 : (i : Int) < ((n + 1 : Nat) : Int) := by omega
          have f2 : (i : Int) ≤ 256 := by have := HN.out; omega
          have IL := hid hlt
          have CBI := hid (CB.outer (n := n) HLb.out.2 i hi)
          clear hi hlt
          go_wp2_with fail
          have d30 : decide ((i : Int) < (n : Int) + 1) = true := by have := IL.out; simp; omega
          try rw [d30]
          clear d30
          obtain ⟨wo, rfl⟩ : ∃ wo : World, wo = wr := ⟨_, rfl⟩
          obtain ⟨m0, hm0⟩ : ∃ s, cOut L n i = s := ⟨_, rfl⟩
          have hnext := hid (show cOut L n (i + 1) = cIn L i (n + 1 - i) m0 from by rw [cOut, hm0])
          rw [hm0] at hg12 CBI
          clear hm0
          go_loopw [14] (fun jj wq => ∃ j : Nat, jj = .int .i64 (j : Nat) ∧ i + j ≤ n + 1 ∧ Hid (NRowT wq g12 (cIn L i j m0)) ∧ Hid (NRowT wq g11 L) ∧ Hid (Below w.heap.size w wq)) (fun jj wq => n + 1 - (intOf jj).toNat)
          case atStart => exact ⟨0, rfl, by have := IL.out; omega, hg12, hg11, hB⟩
          case round =>
            clear hg12 hg11 hB
            obtain ⟨j, rfl, hj, hg12, hg11, hB⟩ := hrel
            have CBJ := hid (CB.inner CBI.out HLb.out.2 j hj)
            by_cases hlt : i + j ≤ n
            · have q6 : decide ((i : Int) + (j : Int) ≤ (n : Int)) = true := by simp; omega
              have f5 : (0 : Int) ≤ (j : Int) := by omega
              have f6 : (j : Int) < ((n + 1 : Nat) : Int) := by omega
              have f7 : (j : Int) ≤ 256 := by have := HN.out; omega
              have f8 : (i : Int) + (j : Int) < ((n + 1 : Nat) : Int) := by omega
              have f9 : (i : Int) + (j : Int) < (n : Int) + 1 := by omega
              have f10 : (0 : Int) ≤ (i : Int) + (j : Int) := by omega
              have f11 : (j : Int) < (n : Int) + 1 := by omega
              have HLT := hid hlt
              obtain ⟨y, hy⟩ : ∃ y, (cIn L i j m0).getD (i + j) 0 = y := ⟨_, rfl⟩
              obtain ⟨x1, hx1⟩ : ∃ y, L.getD i 0 = y := ⟨_, rfl⟩
              obtain ⟨x2, hx2⟩ : ∃ y, L.getD j 0 = y := ⟨_, rfl⟩
              have b1 : x1 ≤ 2 ^ e3 := hx1 ▸ HLb.out.2 i
              have b2 : x2 ≤ 2 ^ e3 := hx2 ▸ HLb.out.2 j
              have tb : i * (n + 1) + j + 1 ≤ (n + 1) * (n + 1) := by
                have h1 : (i + 1) * (n + 1) ≤ (n + 1) * (n + 1) := Nat.mul_le_mul_right _ (by omega)
                rw [Nat.succ_mul] at h1
                omega
              have by0 : y ≤ 2 ^ e7 := hy ▸ conv_bound HN.out (t := i * (n + 1) + j) (by omega) (CBJ.out.up (i + j))
              have bm : x1 * x2 ≤ 2 ^ e7 := by
                have h1 := Nat.mul_le_mul b1 b2
                rw [← Nat.pow_add] at h1
                exact Nat.le_trans h1 (Nat.pow_le_pow_right (by omega) (by unfold e3 e7; omega))
              have bs : y + x1 * x2 ≤ 2 ^ (e7 + 1) := by rw [Nat.pow_succ]; omega
              have e37 : e3 ≤ 3000 ∧ e7 + 1 ≤ 3000 := by unfold e3 e7; omega
              have P1 := fun V hV => hid (p_times V x1 x2 (two_pow_digits b1 e37.1) (two_pow_digits b2 e37.1) (two_pow_digits bm (by omega)) hV)
              have P2 := fun V hV => hid (p_plus V y (x1 * x2) (two_pow_digits by0 (by omega)) (two_pow_digits bm (by omega)) (two_pow_digits bs e37.2) hV)
              have t1 : wr.cell? ⟨g12, i + j, none⟩ = some (.string (numB y)) := by rw [← hy]; exact hg12.out.cell (by rw [CBJ.out.len]; have := HLT.out; omega)
              have t2 : wr.cell? ⟨g11, i, none⟩ = some (.string (numB x1)) := by rw [← hx1]; exact hg11.out.cell (by rw [HLb.out.1]; exact IL.out)
              have t3 : wr.cell? ⟨g11, j, none⟩ = some (.string (numB x2)) := by rw [← hx2]; exact hg11.out.cell (by rw [HLb.out.1]; have := HLT.out; omega)
              obtain ⟨u1, hu1⟩ : ∃ s, numB y = s := ⟨_, rfl⟩
              obtain ⟨u2, hu2⟩ : ∃ s, numB x1 = s := ⟨_, rfl⟩
              obtain ⟨u3, hu3⟩ : ∃ s, numB x2 = s := ⟨_, rfl⟩
              obtain ⟨u4, hu4⟩ : ∃ s, numB (x1 * x2) = s := ⟨_, rfl⟩
              obtain ⟨u5, hu5⟩ : ∃ s, numB (y + x1 * x2) = s := ⟨_, rfl⟩
              rw [hu2, hu3, hu4] at P1
              rw [hu1, hu4, hu5] at P2
              rw [hu1] at t1
              rw [hu2] at t2
              rw [hu3] at t3
              have hstep := hid (show cIn L i (j + 1) m0 = (cIn L i j m0).set (i + j) (y + x1 * x2) from by rw [cIn, cStep, hy, hx1, hx2])
              have HU5 := hid hu5
              clear hy hx1 hx2 b1 b2 tb by0 bm bs e37 hu1 hu2 hu3 hu4 hu5 hlt hj
              go_wp2_with fail
              have ew : IntKind.i64.wrap ((i : Int) + (j : Int)) = (i : Int) + (j : Int) := by rw [IntWalk.i64_in _ ⟨by omega, by omega⟩]
              have et : ((i : Int) + (j : Int)).toNat = i + j := by omega
              refine held_lasts 20 2 [0, 1, 2, 3, 4, 5, 6, 7, 8, 9, 10, 11, 12, 13, 14, 15, 16, 17] 2 (fun W' => W'.cell? ⟨g12, i + j, none⟩ = some (.string u1) ∧ W'.cell? ⟨g11, i, none⟩ = some (.string u2) ∧ W'.cell? ⟨g11, j, none⟩ = some (.string u3)) (by kernel_rfl) rfl (by kernel_rfl) (by kernel_rfl) (by kernel_rfl) (by kernel_rfl) ⟨t1, t2, t3⟩ ?_
              iterate 18
                refine ⟨_, rfl, ?_⟩
                apply Exists.intro
                refine ⟨.inl ⟨by rfl, ?_⟩, ?_⟩
                · (intro W' hW'; obtain ⟨r1, r2, r3⟩ := hW'; go_simp; try (with_reducible rfl))
                (dsimp only [Act.put]; try simp only [List.setIfInBounds_toArray, List.set_cons_zero, List.set_cons_succ])
              refine held_one (i := 18) (by kernel_rfl) (by rfl) (by rfl) ?_
              go_wp2_with fail
              refine (P1 _ (HLy.out.below hB.out.drew HLL.out)).out.mono ?_; rintro e w5 ⟨rfl, hbc⟩
              have C5 := hid (show Below wr.heap.size wr w5 from (Below.refl _ _).drew.trans hbc)
              have E5 := hid (hg12.out.call C5.out); have F5 := hid (hg11.out.call C5.out); have EB5 := hid (hB.out.trans (C5.out.mono hB.out.size))
              have s1 := (C5.out.cell (cell_lt t1)).trans t1
              have s2 := (C5.out.cell (cell_lt t2)).trans t2
              have s3 := (C5.out.cell (cell_lt t3)).trans t3
              clear hbc t1 t2 t3
              go_wp2_with fail
              refine ⟨⟨s1, s2, s3⟩, ?_⟩
              refine held_one (i := 19) (by kernel_rfl) (by rfl) (by rfl) ?_
              go_wp2_with fail
              refine (P2 _ (HLy.out.below EB5.out HLL.out)).out.mono ?_; rintro e w6 ⟨rfl, hbc⟩
              have E6 := hid (E5.out.call hbc); have F6 := hid (F5.out.call hbc); have EB6 := hid (EB5.out.trans (hbc.mono EB5.out.size))
              have v1 := (hbc.cell (cell_lt s1)).trans s1
              have v2 := (hbc.cell (cell_lt s2)).trans s2
              have v3 := (hbc.cell (cell_lt s3)).trans s3
              clear hbc s1 s2 s3
              go_wp2_with fail
              refine ⟨⟨v1, v2, v3⟩, ?_⟩
              refine wpAnyH_done (by kernel_rfl) ?_ _
              simp only [Only, ThenL, List.drop_succ_cons, List.drop_zero]
              have fz := E6.out.free (i + j)
              clear v2 v3
              go_wp2_with fail
              try simp only [Only]
              go_roundw
              case rel =>
                refine ⟨j + 1, by go_num, by have := HLT.out; omega, ?_, F6.out.other (fun e => NE.out e.symm) _, EB6.out.setCell K12.out _⟩
                show NRowT _ _ _
                rw [hstep.out, ← HU5.out]
                exact E6.out.set (i + j) (y + x1 * x2)
              case measure => simp [intOf] <;> (have := HLT.out; omega)
            · have q6 : decide ((i : Int) + (j : Int) ≤ (n : Int)) = false := by simp; omega
              have e1 : j = n + 1 - i := by omega
              have f7 : (j : Int) ≤ 257 := by have := HN.out; omega
              have f5 : (0 : Int) ≤ (j : Int) := by omega
              subst e1
              clear hj hlt
              go_wp2_with fail
              go_roundw
              case rel => exact ⟨i + 1, by go_num, by have := IL.out; omega, by rw [hnext.out]; exact hg12, hg11, hB⟩
              case measure => simp [intOf] <;> (have := IL.out; omega)
        · have q5 : decide ((i : Int) < ((n + 1 : Nat) : Int)) = false := by simp; omega
          have e1 : i = n + 1 := by omega
          subst e1
          go_wp2_with fail
          go_meet
          exact ⟨⟨g12, rfl, K12.out, by rw [← HMQ.out]; exact hg12.out⟩, hB.out⟩
  case rest =>
    obtain ⟨⟨g, rfl, hg, hrow⟩, hB⟩ := hcut
    have RG := hid hrow; have KG := hid hg; have B3 := hid hB
    have HPow := fun V k (hk : k ≤ 256) hV => hid (g_power V k (by omega) hV)
    clear hrow hg hB
    go_wp2_with fail
    refine (HPow _ n HN.out (HLy.out.call B3.out)).out.mono ?_; rintro e w4 ⟨rfl, hb4⟩
    have RG4 := hid (RG.out.call hb4); have B4 := hid (bnext B3.out hb4)
    clear hb4
    go_wp2_with fail
    go_loopw [15, 82] (fun rr ii wr => ∃ i : Nat, ii = .int .i64 (i : Nat) ∧ i ≤ n + 1 ∧ rr = .string (numB (rIn M n i)) ∧ Hid (NRowT wr g M) ∧ Hid (Below w.heap.size w wr)) (fun rr ii wr => n + 1 - (intOf ii).toNat)
    case atStart => exact ⟨0, rfl, Nat.zero_le _, rfl, RG4, B4⟩
    case round =>
      obtain ⟨i, rfl, hi, rfl, hrow, hB⟩ := hrel
      by_cases hlt : i < n + 1
      · have q5 : decide ((i : Int) < ((n + 1 : Nat) : Int)) = true := by simp; omega
        have f0 : (0 : Int) ≤ (i : Int) := by omega
        have f1 : (i : Int) < ((n + 1 : Nat) : Int) := by omega
        have f2 : (i : Int) ≤ 256 := by have := HN.out; omega
        have f3 : (i : Int) ≤ (n : Int) := by omega
        have w1' : IntKind.i64.wrap ((n : Int) - (i : Int)) = ((n - i : Nat) : Int) := by rw [IntWalk.i64_in _ ⟨by omega, by omega⟩]; omega
        have IL := hid hlt
        obtain ⟨x, hx⟩ : ∃ x, M.getD i 0 = x := ⟨_, rfl⟩
        have t1 : wr.cell? ⟨g, i, none⟩ = some (.string (numB x)) := by rw [← hx]; exact hrow.out.cell (by rw [HMb.out.1]; exact IL.out)
        have bx : x ≤ 2 ^ e7 := hx ▸ HMb.out.2 i
        have hle : x * 2 ^ (n - i) ≤ rIn M n i := hx ▸ HR.out i (by omega)
        have hnx := hid (show rIn M n (i + 1) = rIn M n i - x * 2 ^ (n - i) from by rw [rIn, hx])
        have br := rIn_le M n i
        obtain ⟨r, hr⟩ : ∃ r, rIn M n i = r := ⟨_, rfl⟩
        rw [hr] at hle hnx br ⊢
        have P1 := fun V hV => hid (p_times V x (2 ^ (n - i)) (two_pow_digits bx (by unfold e7; omega)) (two_pow_digits (Nat.le_refl _) (by omega)) (two_pow_digits (Nat.le_trans hle br) (by have := HN.out; omega)) hV)
        have P2 := fun V hV => hid (p_sub V r (x * 2 ^ (n - i)) (two_pow_digits br (by have := HN.out; omega)) (two_pow_digits (Nat.le_trans hle br) (by have := HN.out; omega)) hle hV)
        have P0 := fun V hV => (HPow V (n - i) (by have := HN.out; omega) hV)
        obtain ⟨u1, hu1⟩ : ∃ s, numB x = s := ⟨_, rfl⟩
        obtain ⟨u2, hu2⟩ : ∃ s, numB (2 ^ (n - i)) = s := ⟨_, rfl⟩
        obtain ⟨u3, hu3⟩ : ∃ s, numB (x * 2 ^ (n - i)) = s := ⟨_, rfl⟩
        obtain ⟨u4, hu4⟩ : ∃ s, numB r = s := ⟨_, rfl⟩
        obtain ⟨u5, hu5⟩ : ∃ s, numB (r - x * 2 ^ (n - i)) = s := ⟨_, rfl⟩
        rw [hu2] at P0
        rw [hu1, hu2, hu3] at P1
        rw [hu3, hu4, hu5] at P2
        rw [hu1] at t1
        rw [hu4]
        have HU5 := hid hu5
        clear hx bx hle br hr hu1 hu2 hu3 hu4 hu5 hi hlt HPow
        go_wp2_with fail
        refine (P0 _ (HLy.out.below hB.out HLL.out)).out.mono ?_; rintro e w5 ⟨rfl, hb5⟩
        have R5 := hid (hrow.out.call hb5); have B5 := hid (hB.out.trans (hb5.mono hB.out.size))
        clear hb5 t1
        go_wp2_with fail
        refine (P1 _ (HLy.out.below B5.out HLL.out)).out.mono ?_; rintro e w6 ⟨rfl, hb6⟩
        have R6 := hid (R5.out.call hb6); have B6 := hid (B5.out.trans (hb6.mono B5.out.size))
        clear hb6
        go_wp2_with fail
        refine (P2 _ (HLy.out.below B6.out HLL.out)).out.mono ?_; rintro e w7 ⟨rfl, hb7⟩
        have R7 := hid (R6.out.call hb7); have B7 := hid (B6.out.trans (hb7.mono B6.out.size))
        clear hb7 w1'
        go_wp2_with fail
        go_roundw
        case rel => exact ⟨i + 1, by go_num, by have := IL.out; omega, by rw [hnx.out, HU5.out], R7, B7⟩
        case measure => simp [intOf] <;> (have := IL.out; omega)
      · have q5 : decide ((i : Int) < ((n + 1 : Nat) : Int)) = false := by simp; omega
        have e1 : i = n + 1 := by omega
        subst e1
        obtain ⟨u1, hu1⟩ : ∃ s, numB (rIn M n (n + 1)) = s := ⟨_, rfl⟩
        obtain ⟨u2, hu2⟩ : ∃ s, numB (2 ^ n) = s := ⟨_, rfl⟩
        have P0 := fun V hV => (HPow V n HN.out hV)
        rw [hu1, hu2] at HQM
        rw [hu2] at P0
        rw [hu1]
        clear hu1 hu2 HPow hi hlt
        go_wp2_with fail
        refine (P0 _ (HLy.out.below hB.out HLL.out)).out.mono ?_; rintro e w5 ⟨rfl, hb5⟩
        have B5 := hid (hB.out.trans (hb5.mono hB.out.size))
        clear hb5
        go_wp2_with fail
        refine (HQM _ (HLy.out.below B5.out HLL.out)).out.mono ?_; rintro e w6 ⟨rfl, hb6⟩
        have B6 := hid (B5.out.trans (hb6.mono B5.out.size))
        clear hb6
        go_wp2_with fail
        go_ret2
        exact ⟨rfl, B6.out⟩
set_option maxRecDepth 100000 in
set_option maxHeartbeats 1000000 in
theorem g_TwoLate (w : World) (a : ByteArray) (n N D : Nat) (ha : a.size ≤ 100000) (he : gPE a = 0) (hn : n ≤ 256) (hN : bN (cW a) = N) (hD : bN (qD a) = D) (hND : N < D) (hL : Lay w)
    (hR : ∀ i, i ≤ n → (lateL true (tOut (oneJ N D) (zeroJ N D) n (n + 1)).2 n).getD i 0 * 2 ^ (n - i) ≤ rIn (lateL true (tOut (oneJ N D) (zeroJ N D) n (n + 1)).2 n) n i) :
    Calls Tryz.prog 10 #[.string a, .int .i64 n] w fun e w' => e = .returned (.tuple #[.string (outB (qmk false (rIn (lateL true (tOut (oneJ N D) (zeroJ N D) n (n + 1)).2 n) n (n + 1)) (2 ^ n))), .int .i64 0]) ∧ Below w.heap.size w w' := by
  have H := hid (g_late w a n N D true ha he hn hN hD hND hL hR)
  obtain ⟨out, hout⟩ : ∃ o, outB (qmk false (rIn (lateL true (tOut (oneJ N D) (zeroJ N D) n (n + 1)).2 n) n (n + 1)) (2 ^ n)) = o := ⟨_, rfl⟩
  rw [hout] at H ⊢
  clear ha he hn hN hD hND hL hR hout
  go_enter Tryz.func10, Tryz.ntmps10
  go_wp2_with fail
  refine H.out.mono ?_; rintro e w1 ⟨rfl, hb1⟩
  have B1 := hid hb1; clear hb1
  go_wp2_with fail
  go_ret2
  exact ⟨rfl, B1.out⟩
end Go.Proofs.YtccalhlhdiapiaaGreatDoor
namespace Go.Proofs.YtccalhlhdiapiaaGreatDoor
open Go.RowKit
set_option linter.unusedVariables false
set_option linter.unusedSimpArgs false
/-- What geom.late says. -/
theorem late_gL {N D : Nat} (h : N < D) (two : Bool) (n : Nat) : rIn (lateL two (tOut (oneJ N D) (zeroJ N D) n (n + 1)).2 n) n (n + 1) = gL N D two n ∧ ∀ i, i ≤ n → (lateL two (tOut (oneJ N D) (zeroJ N D) n (n + 1)).2 n).getD i 0 * 2 ^ (n - i) ≤ rIn (lateL two (tOut (oneJ N D) (zeroJ N D) n (n + 1)).2 n) n i := by
  have hs : sumN (fun i => (lateL two (tOut (oneJ N D) (zeroJ N D) n (n + 1)).2 n).getD i 0 * 2 ^ (n - i)) (n + 1) = if two = true then cw n (dec2P N D) else cw n (decP N D) := by
    cases two
    · exact tot_dec h n (Nat.le_refl n)
    · rw [if_pos rfl, ← tot_dec2 h n (Nat.le_refl n)]
      unfold lateL
      rw [if_pos rfl]
      refine sumN_congr fun i hi => ?_
      rw [cOut_all (by omega)]; rfl
  have hle : sumN (fun i => (lateL two (tOut (oneJ N D) (zeroJ N D) n (n + 1)).2 n).getD i 0 * 2 ^ (n - i)) (n + 1) ≤ 2 ^ n := by
    rw [hs]
    have h1 := cw_not (dec2P N D) n
    have h2 := cw_not (decP N D) n
    split <;> omega
  refine ⟨?_, rIn_ok hle⟩
  rw [rIn_sum hle _ (Nat.le_refl _), hs]
  cases two
  · exact (gL_dec N D n).symm
  · exact (gL_dec2 N D n).symm
end Go.Proofs.YtccalhlhdiapiaaGreatDoor
namespace Go.Proofs.YtccalhlhdiapiaaGreatDoor
open Go.RowKit
open Go.Lib (decDigits nDigits)
set_option linter.unusedVariables false
set_option linter.unusedSimpArgs false
/-- What geom.late returns. -/
def glE (a : ByteArray) (n : Int) (m : Int) : Int := if gPE a ≠ 0 then gPE a else if n < 0 ∨ m < n then 2 else 0
def glB (a : ByteArray) (n : Int) (two : Bool) : ByteArray := if glE a n 256 = 0 then shB (gL (bN (cW a)) (bN (qD a)) two n.toNat) (2 ^ n.toNat) else ⟨#[]⟩
set_option maxRecDepth 100000 in
set_option maxHeartbeats 1000000 in
theorem g_lateA (w : World) (a : ByteArray) (n : Int) (two : Bool) (ha : a.size ≤ 100000) (hL : Lay w) :
    Calls Tryz.prog 31 #[.string a, .int .i64 n, .bool two] w fun e w' => e = .returned (.tuple #[.string (glB a n two), .int .i64 (glE a n 256)]) ∧ Below w.heap.size w w' := by
  by_cases he : gPE a = 0
  · by_cases hn : n < 0 ∨ 256 < n
    · have e1 : glE a n 256 = 2 := by unfold glE; rw [if_neg (by rw [he]; simp), if_pos hn]
      have e2 : glB a n two = ⟨#[]⟩ := by unfold glB; rw [if_neg (by rw [e1]; decide)]
      rw [e1, e2]
      have HA := hid (g_ratio w a ha hL)
      rw [if_pos he, if_pos he, he] at HA
      obtain ⟨b1, k1⟩ : ∃ b, decide (n < 0) = b := ⟨_, rfl⟩
      obtain ⟨b2, k2⟩ : ∃ b, decide (256 < n) = b := ⟨_, rfl⟩
      have k3 : (b1 || b2) = true := by rw [← k1, ← k2]; simpa using hn
      clear ha hL he hn e1 e2
      cases b1
      · obtain rfl : b2 = true := by simpa using k3
        clear k3
        go_enter Tryz.func31, Tryz.ntmps31
        go_wp2_with fail
        refine HA.out.mono ?_; rintro e w1 ⟨rfl, hb1⟩
        have B1 := hid hb1; clear hb1 HA
        go_wp2_with fail
        go_ret2
        exact ⟨rfl, B1.out⟩
      · clear k2 k3
        go_enter Tryz.func31, Tryz.ntmps31
        go_wp2_with fail
        refine HA.out.mono ?_; rintro e w1 ⟨rfl, hb1⟩
        have B1 := hid hb1; clear hb1 HA
        go_wp2_with fail
        go_ret2
        exact ⟨rfl, B1.out⟩
    · obtain ⟨m, rfl⟩ : ∃ m : Nat, n = (m : Nat) := ⟨n.toNat, by omega⟩
      have e1 : glE a (m : Nat) 256 = 0 := by unfold glE; rw [if_neg (by rw [he]; simp), if_neg hn]
      have hND := (gPE_ok he).2
      obtain ⟨l1, l2⟩ := late_gL hND two m
      have := g_late w a m _ _ two ha he (by omega) rfl rfl hND hL l2
      rw [l1] at this
      unfold glB
      rw [if_pos e1, e1]
      exact this
  · have e1 : glE a n 256 = gPE a := by unfold glE; rw [if_pos he]
    have e2 : glB a n two = ⟨#[]⟩ := by unfold glB; rw [if_neg (by rw [e1]; exact he)]
    rw [e1, e2]
    have HA := hid (g_ratio w a ha hL)
    rw [if_neg he, if_neg he] at HA
    obtain ⟨x, hx⟩ : ∃ x, gPE a = x := ⟨_, rfl⟩
    rw [hx] at HA he ⊢
    have x0 : (x != 0) = true := by simpa using he
    clear ha hL he hx e1 e2
    go_enter Tryz.func31, Tryz.ntmps31
    go_wp2_with fail
    refine HA.out.mono ?_; rintro e w1 ⟨rfl, hb1⟩
    have B1 := hid hb1; clear hb1 HA
    go_wp2_with fail
    go_ret2
    exact ⟨rfl, B1.out⟩
set_option maxRecDepth 100000 in
set_option maxHeartbeats 1000000 in
theorem g_OneLateA (w : World) (a : ByteArray) (n : Int) (ha : a.size ≤ 100000) (hL : Lay w) :
    Calls Tryz.prog 8 #[.string a, .int .i64 n] w fun e w' => e = .returned (.tuple #[.string (glB a n false), .int .i64 (glE a n 256)]) ∧ Below w.heap.size w w' := by
  have H := hid (g_lateA w a n false ha hL)
  obtain ⟨o, ho⟩ : ∃ o, glB a n false = o := ⟨_, rfl⟩
  obtain ⟨x, hx⟩ : ∃ x, glE a n 256 = x := ⟨_, rfl⟩
  rw [ho, hx] at H ⊢
  clear ha hL ho hx
  go_enter Tryz.func8, Tryz.ntmps8
  go_wp2_with fail
  refine H.out.mono ?_; rintro e w1 ⟨rfl, hb1⟩
  have B1 := hid hb1; clear hb1
  go_wp2_with fail
  go_ret2
  exact ⟨rfl, B1.out⟩
end Go.Proofs.YtccalhlhdiapiaaGreatDoor
namespace Go.Proofs.YtccalhlhdiapiaaGreatDoor
open Go.RowKit Go.Sort Go.Shelf Go.Maps
open Go.Lib (decDigits nDigits)
set_option linter.unusedVariables false
set_option linter.unusedSimpArgs false
/-- The pairs that have been laid. -/
def prL (N D : Nat) (two : Bool) (n : Nat) (vs : List Int) : List (ByteArray × ByteArray) := vs.map fun v => (zB v, shB (gV N D two n v) (2 ^ n))
theorem prL_snoc (N D : Nat) (two : Bool) (n : Nat) (vs : List Int) (v : Int) : prL N D two n (vs ++ [v]) = prL N D two n vs ++ [(zB v, shB (gV N D two n v) (2 ^ n))] := by simp [prL]
theorem seen_len {n : Nat} {vs : List Int} (hn : vs.Nodup) (hb : ∀ v ∈ vs, -(n : Int) ≤ v ∧ v ≤ n) : vs.length ≤ 2 * n + 1 := by
  have h := seen_sum (fun _ => 1) n vs hn hb
  have h2 : sumN (fun j => if ((j : Int) - n) ∈ vs then 1 else 0) (2 * n + 1) ≤ sumN (fun _ => 1) (2 * n + 1) := sumN_le fun j _ => by split <;> omega
  have h3 : ∀ m, sumN (fun _ => 1) m = m := fun m => by
    induction m with
    | zero => rfl
    | succ m ih => rw [sumN, ih]
  have h4 : ∀ l : List Int, (l.map fun _ => 1).sum = l.length := fun l => by
    induction l with
    | nil => rfl
    | cons a r ih => rw [List.map_cons, List.sum_cons, ih, List.length_cons]; omega
  rw [h3] at h2
  rw [h4] at h
  omega
set_option maxRecDepth 100000 in
set_option maxHeartbeats 8000000 in
theorem g_listed_ok {H : Type} (w : World) (a : ByteArray) (n N D : Nat) (two : Bool) (ha : a.size ≤ 100000) (he : gPE a = 0) (hn : n ≤ 32) (hN : bN (cW a) = N) (hD : bN (qD a) = D) (hND : N < D) (hL : Lay w) :
    Calls Tryz.prog 33 #[.string a, .int .i64 n, .bool two] w fun e w' => (∃ v, e = .returned (.tuple #[v, .int .i64 0]) ∧ MRow w' v (sortM (glP (gV N D two n) (2 ^ n) n (gL N D two n)))) ∧ Below w.heap.size w w' := by
  have HA := hid (g_ratio w a ha hL)
  rw [if_pos he, if_pos he, he] at HA
  have HLAW : ∀ V, Lay V → Hid (Calls Tryz.prog 74 #[.string a, .int .i64 n, .bool two] V fun e w' => (∃ B nn Dm, e = .returned (.map (some B)) ∧ V.heap.size ≤ B ∧ nn ≤ 3000000 ∧ w'.ownsMap Tryz.prog 3 (plainElem (H := H) Tryz.prog 22) B nn Dm ∧ ReadsI Dm (gV N D two n)) ∧ Below V.heap.size V w') := fun V hV => by
    cases two
    · exact g_law1 V a n N D ha he hn hN hD hND hV
    · exact g_law2 V a n N D ha he hn hN hD hND hV
  have HPW := fun V hV => hid (g_power V n (by omega) hV)
  have HSL : Hid (∀ vs left, Seen (gV N D two n) n left vs → (vs.map (gV N D two n)).sum ≤ 2 ^ n) := fun vs left h => h.sum_le hND
  have HSA : Hid (∀ vs left, Seen (gV N D two n) n left vs → (∀ v, left v = false) → 2 ^ n - (vs.map (gV N D two n)).sum = gL N D two n) := fun vs left h hl => h.sum_all hND hl
  have HSP : Hid (∀ vs left, Seen (gV N D two n) n left vs → (∀ v, left v = false) → ∀ r, ((prL N D two n vs ++ if r = 0 then [] else [(lateB, shB r (2 ^ n))]).map keyL).Nodup ∧ sortM (prL N D two n vs ++ if r = 0 then [] else [(lateB, shB r (2 ^ n))]) = sortM (glP (gV N D two n) (2 ^ n) n r)) := fun vs left h hl r => h.pairs hND hl
  have HVS : Hid (∀ vs left, Seen (gV N D two n) n left vs → vs.length ≤ 100) := fun vs left h => by
    have h1 := seen_len h.nd fun v hv => by
      have h1 := ((h.mem v).1 hv).1
      rcases Int.lt_or_le v (-(n : Int)) with h2 | h2
      · exact absurd (gV_out hND (.inl h2)) h1
      · rcases Int.lt_or_le (n : Int) v with h3 | h3
        · exact absurd (gV_out hND (.inr h3)) h1
        · exact ⟨h2, h3⟩
    omega
  have HOUT : Hid (∀ v, gV N D two n v ≠ 0 → -100 ≤ v ∧ v ≤ 100) := fun v h1 => by
    rcases Int.lt_or_le v (-(n : Int)) with h2 | h2
    · exact absurd (gV_out hND (.inl h2)) h1
    · rcases Int.lt_or_le (n : Int) v with h3 | h3
      · exact absurd (gV_out hND (.inr h3)) h1
      · omega
  have HGV : Hid (∀ v, gV N D two n v ≤ 2 ^ n) := fun v => gV_le hND two n v
  have hpn : 2 ^ n ≤ 2 ^ 32 := Nat.pow_le_pow_right (by omega) hn
  have dT := two_pow_digits hpn (by omega)
  have hT0 : 2 ^ n ≠ 0 := Nat.ne_of_gt (Nat.pow_pos (by omega))
  have HMK : ∀ x, x ≤ 2 ^ n → ∀ V, Lay V → Hid (Calls Tryz.prog 65 #[.string (numB x), .string (numB (2 ^ n))] V fun e w' => e = .returned (.tuple #[.string (shB x (2 ^ n)), .int .i64 (outE (qmk false x (2 ^ n)))]) ∧ Below V.heap.size V w') := fun x hx V hV => pk_make V x (2 ^ n) (two_pow_digits (i := 32) (by omega) (by omega)) dT hT0 hV
  have HSB : ∀ x y, y ≤ x → x ≤ 2 ^ n → ∀ V, Lay V → Hid (Calls Tryz.prog 64 #[.string (numB x), .string (numB y)] V fun e w' => e = .returned (.tuple #[.string (numB (x - y)), .int .i64 0]) ∧ Below V.heap.size V w') := fun x y hy hx V hV => p_sub V x y (two_pow_digits (i := 32) (by omega) (by omega)) (two_pow_digits (i := 32) (by omega) (by omega)) hy hV
  have HMK' := hid HMK; have HSB' := hid HSB
  obtain ⟨cg, hcg⟩ : ∃ c, gV N D two n = c := ⟨_, rfl⟩
  obtain ⟨gl, hgl⟩ : ∃ c, gL N D two n = c := ⟨_, rfl⟩
  obtain ⟨pr, hpr⟩ : ∃ c, prL N D two n = c := ⟨_, rfl⟩
  have HPR : Hid (∀ vs v, pr (vs ++ [v]) = pr vs ++ [(zB v, shB (cg v) (2 ^ n))]) := fun vs v => by rw [← hpr, ← hcg]; exact prL_snoc N D two n vs v
  have HPL : Hid (∀ vs, (pr vs).length = vs.length) := fun vs => by rw [← hpr]; unfold prL; rw [List.length_map]
  have HP0 : Hid (pr [] = []) := by show pr [] = []; rw [← hpr]; rfl
  rw [hcg] at HSL HSA HSP HVS HOUT HGV
  rw [hpr] at HSP
  rw [hgl] at HSA
  simp only [hcg] at HLAW
  rw [hcg, hgl]
  obtain ⟨T, hT⟩ : ∃ T, 2 ^ n = T := ⟨_, rfl⟩
  obtain ⟨sT, hsT⟩ : ∃ s, numB T = s := ⟨_, rfl⟩
  rw [hT] at HPW HSL HSA HSP HGV HMK' HSB' HPR hT0 ⊢
  rw [hsT] at HPW
  simp only [hsT] at HMK'
  have HST := hid hsT; have HT0 := hid hT0
  have HLy := hid hL; have HN := hid hn
  have q0 : decide ((n : Int) < 0) = false := by simp
  have q1 : decide ((32 : Int) < (n : Int)) = false := by simp; omega
  obtain ⟨i0, hi, hz0, hz1, hz2⟩ := info_parts info_mass
  clear ha he hn hN hD hND hL hcg hgl hpr hT hsT hpn dT hT0 HMK HSB
  go_enter Tryz.func33, Tryz.ntmps33
  go_wp2_with fail
  refine HA.out.mono ?_; rintro e w1 ⟨rfl, hb1⟩
  have B1 := hid hb1; clear hb1 HA
  go_wp2_with fail
  refine (HPW _ (HLy.out.call B1.out)).out.mono ?_; rintro e w2 ⟨rfl, hb2⟩
  have B2 := hid (bnext B1.out hb2); clear hb2
  go_wp2_with fail
  refine (HLAW _ (HLy.out.call B2.out)).out.mono ?_; rintro e w3 ⟨⟨B, nn, Dm, rfl, hBs, hnn, hown, hR⟩, hb3⟩
  have B3 := hid (bnext B2.out hb3); have HR := hid hR; have HBS := hid hBs
  clear hb3 hBs hnn hR HLAW
  go_wp2_with (first | (at_range; refine wpList_range_own _ rfl _ 88 rfl 3 22 (int_keyed Tryz.underlying3) Tryz.underlying88 _ B nn Dm rfl hown ?_; intro w4 hrg0 hg0 hs0) | go_in)
  go_frame
  have B4 : Hid (Below w.heap.size w w4) := B3.out.trans ⟨hg0.os, hg0.tape, hg0.output, hg0.size, fun k hk => hg0.block k (by have := B3.out.size; omega) (by simp)⟩
  obtain ⟨r, hr⟩ : ∃ r, w3.heap.size = r := ⟨_, rfl⟩
  rw [hr] at hrg0 ⊢
  have Hr : Hid (w.heap.size ≤ r ∧ r < w4.heap.size ∧ B < w4.heap.size) := ⟨by rw [← hr]; exact B3.out.size, hrg0.lt, hrg0.owns.lt⟩
  have S0 : Hid (Seen cg n (fun v => Maps.has Dm (.int .i64 v)) []) := Seen.start fun v hv => by rw [HR.out.has]; simpa using hv
  have RG := hid hrg0
  have HB0 : Hid (w.heap.size ≤ B) := Nat.le_trans B2.out.size HBS.out
  clear hrg0 hg0 hs0 hown hr HBS
  go_loopw [11, 12] (fun s11 s12 wr => ∃ (left : Lit → Bool) (cnt : Nat) (vs : List Int), Hid (wr.ranges Tryz.prog 3 (plainElem Tryz.prog 22) B r nn Dm left cnt) ∧ Hid (Seen cg n (fun v => left (.int .i64 v)) vs) ∧ s12 = .string (numB (T - (vs.map cg).sum)) ∧ Hid (wr.ownsRow w4.heap.size 33 2 s11 vs.length (massC (pr vs))) ∧ Hid (w4.heap.size ≤ wr.heap.size) ∧ Hid (Below w.heap.size w wr)) (fun s11 s12 wr => wr.rangeLeft B r)
  case atStart => exact ⟨_, _, [], RG, S0, by simp [HST.out], hid (by rw [HP0.out]; exact ⟨rfl, .inl ⟨rfl, rfl⟩⟩), hid (Nat.le_refl _), B4⟩
  case round =>
    clear RG S0 B4
    obtain ⟨left, cnt, vs, hrg, hS, rfl, hO, hW, hBl⟩ := hrel
    obtain ⟨ar, cr, rfl⟩ := owns_ex hO.out
    go_wp2_with (first
      | (at_next; refine wpList_next_ranges_is _ rfl _ rfl 3 22 .i64 (int_keyed Tryz.underlying3) Tryz.underlying3 Tryz.underlying22 B r nn _ _ _ rfl hrg.out ?_ ?_)
      | go_in)
    · intro _ hl0
      have hl1 : ∀ v, (fun v => left (.int .i64 v)) v = false := fun v => hl0 _
      have hrest := HSA.out vs _ hS.out hl1
      obtain ⟨hnd, hsort⟩ := HSP.out vs _ hS.out hl1 gl
      have hvl := HVS.out vs _ hS.out
      have hgT : gl ≤ T := by omega
      rw [hrest]
      have HND := hid hnd; have HSO := hid hsort; have HVL := hid hvl
      have P1 := fun V hV => HMK'.out gl hgT V hV
      obtain ⟨L, hL⟩ : ∃ L, pr vs = L := ⟨_, rfl⟩
      have hLl := HPL.out vs
      rw [hL] at hO HND HSO hLl
      rw [← hLl] at hO hvl ⊢
      have HGT := hid hgT
      have hpos : 0 < (L ++ if gl = 0 then [] else [(lateB, shB gl T)]).length := by
        rw [List.length_append]
        split
        · rename_i h0
          have : vs ≠ [] := fun e => by subst e; simp at hrest; have := HT0.out; omega
          have := List.length_pos_iff.2 this
          simp; omega
        · simp
      have HPOS := hid hpos
      clear hl0 hl1 hrest hnd hsort hS hrg hgT hL hLl hpos HVL
      obtain ⟨sg, hsg⟩ : ∃ s, numB gl = s := ⟨_, rfl⟩
      rw [hsg] at P1 ⊢
      have HSG := hid hsg
      clear hsg
      obtain ⟨tb0, htb⟩ : ∃ b, (sg.toList == [48]) = b := ⟨_, rfl⟩
      go_upto_if 67 with fail
      have HTB := hid htb
      clear htb
      go_cut [11] (fun s11 wx => ∃ k, k = (L ++ if gl = 0 then [] else [(lateB, shB gl T)]).length ∧ wx.ownsRow w4.heap.size 33 2 s11 k (massC (L ++ if gl = 0 then [] else [(lateB, shB gl T)])) ∧ w4.heap.size ≤ wx.heap.size ∧ Below w.heap.size w wx)
      case first =>
        by_cases h0 : gl = 0
        · have e1 : L ++ (if gl = 0 then [] else [(lateB, shB gl T)]) = L := by rw [if_pos h0, List.append_nil]
          have q3 : (sg.toList == [48]) = true := by rw [← HSG.out, h0, numB_zero]; exact lit_zero
          obtain rfl : true = tb0 := by rw [← HTB.out]; exact q3.symm
          have HE1 := hid e1
          clear h0 e1 q3
          go_wp2_with fail
          go_meet
          exact ⟨_, rfl, by rw [HE1.out]; exact hO.out, hW.out, hBl.out⟩
        · have e1 : L ++ (if gl = 0 then [] else [(lateB, shB gl T)]) = L ++ [(lateB, shB gl T)] := by rw [if_neg h0]
          have q3 : (sg.toList == [48]) = false := by rw [← HSG.out]; exact ne_lit (l := [48]) (by rw [← numB_zero]; exact numB_ne h0)
          obtain rfl : false = tb0 := by rw [← HTB.out]; exact q3.symm
          have HE1 := hid e1
          obtain ⟨sh, hsh⟩ : ∃ s, shB gl T = s := ⟨_, rfl⟩
          rw [hsh] at P1
          have HSH := hid hsh
          clear hsh h0 e1 q3
          go_wp2_with fail
          refine (HPW _ (HLy.out.call hBl.out)).out.mono ?_; rintro e w5 ⟨rfl, hb5⟩
          have B5 := hid (bnext hBl.out hb5); have O5 := hid (owns_call hO.out hb5); have W5 := hid (Nat.le_trans hW.out hb5.size)
          clear hb5
          go_wp2_with fail
          refine (P1 _ (HLy.out.call B5.out)).out.mono ?_; rintro e w6 ⟨rfl, hb6⟩
          have B6 := hid (bnext B5.out hb6); have O6 := hid (owns_call O5.out hb6); have W6 := hid (Nat.le_trans W5.out hb6.size)
          clear hb6
          have hw6 := W6.out
          obtain ⟨hr0, hr1, hr2⟩ := Hr.out
          go_wp2_with (at_builtin; refine wpList_append_own _ rfl _ _ 28 rfl w4.heap.size 33 i0 (.agg #[.string ⟨#[]⟩, .string ⟨#[]⟩]) 2 32 Tryz.underlying28 hi hz0 hz1 hz2 rfl (by decide) _ L.length _ rfl (O6.out.alloc _) ⟨w6.heap.size, 0, none⟩ 1 1 [.string ⟨#[108, 97, 116, 101]⟩, .string sh] rfl rfl (cell_two_new w6 (.string ⟨#[108, 97, 116, 101]⟩) (.string sh) 33) (by simp [Value.oneCell']) (by unfold maxLen; omega) (by omega) (by simp; omega) ?_; intro v' w7 hown7 hgrow7 _)
          have O7 := hid hown7
          have B7 : Hid (Below w.heap.size w w7) := B6.out.trans ((Below.refl _ _).alloc (Nat.le_refl _) _ |>.mono (by have := B6.out.size; omega) |>.trans ⟨hgrow7.os, hgrow7.tape, hgrow7.output, hgrow7.size, fun k hk => hgrow7.block k (by have := B6.out.size; simp; omega) (fun e => by have := (O6.out.lt k e.symm).1; omega)⟩)
          have W7 := hid (show w4.heap.size ≤ w7.heap.size by have := hgrow7.size; simp at this; omega)
          clear hown7 hgrow7 hw6 hr0 hr1 hr2
          go_wp2_with fail
          go_meet
          refine ⟨_, rfl, ?_, W7.out, B7.out⟩
          rw [HE1.out, List.length_append, massC_append, HSH.out]
          exact O7.out
      case rest =>
        obtain ⟨k, rfl, hOx, hWx, hBx⟩ := hcut
        have HB := hid hBx; have HW := hid hWx
        obtain ⟨d, hd⟩ : ∃ d, (L ++ if gl = 0 then [] else [(lateB, shB gl T)]) = d := ⟨_, rfl⟩
        rw [hd] at hOx HND HSO HPOS
        have hdl : d.length ≤ 1000 := by rw [← hd, List.length_append]; split <;> simp <;> omega
        rcases hOx.2 with ⟨_, h0⟩ | ⟨g, cap, cur, rfl, hgb, hg, h1, h2, h3, h4⟩
        · have := HPOS.out; omega
        · have hSM := s_SortM 77 g cap w4.heap.size d.toArray wc cur hgb hg (by simpa using h1) h2 h3 (by simpa [massC_length] using h4) (by simpa using hdl) (by simpa using HND.out) (enters_of Tryz.func77 (by kernel_rfl) rfl) (fun x y W => g_order x y W)
          simp only [List.size_toArray] at hSM
          have HSM := hid hSM
          clear hd hdl hSM hOx hWx hBx h1 h2 h3 h4 hg
          go_wp2_with fail
          refine HSM.out.mono ?_; rintro e w8 ⟨rfl, ho8, hb8⟩
          have B8 : Hid (Below w.heap.size w w8) := HB.out.trans (hb8.mono (by have := Hr.out.1; have := Hr.out.2.1; omega))
          have M8 := hid (MRow.of_owns ho8)
          clear ho8 hb8
          go_wp2_with fail
          go_ret2
          refine ⟨⟨_, rfl, ?_⟩, B8.out⟩
          rw [← HSO.out]
          exact M8.out
    · intro x c w5 cnt1 hwx hwc hlx hat hrg1 hlt hg1 hs1 hen
      have hxc : cg x ≠ 0 := by
        have h1 := has_true_of_atKey hat
        rw [HR.out.has] at h1
        simpa using h1
      have hcx : c = numB (cg x) := by
        have h1 := (HR.out.look x hxc (.lit (.string []))).symm.trans (hat (.lit (.string [])))
        simp only [DataW.lit.injEq, Lit.string.injEq] at h1
        exact (ba_ext h1).symm
      subst hcx
      have hS1 := Seen.step (left' := fun v => (fun z => left z && !z.sameKey (.int .i64 x)) (.int .i64 v)) hS.out (x := x) hlx hxc (fun v => by simp only [sameKey_int])
      have hsum := HSL.out _ _ hS1
      have hsum1 : ((vs ++ [x]).map cg).sum = (vs.map cg).sum + cg x := by simp
      rw [hsum1] at hsum
      have hvl := HVS.out _ _ hS1
      rw [List.length_append, List.length_singleton] at hvl
      have hxb := HOUT.out x hxc
      have P1 := fun V hV => HMK'.out (cg x) (HGV.out x) V hV
      have P2 := fun V hV => HSB'.out (T - (vs.map cg).sum) (cg x) (by omega) (by omega) V hV
      have PI := fun V hV => hid (s_ItoaZ V x (by omega) (by omega) hV)
      have HNX : Hid (T - (vs.map cg).sum - cg x = T - ((vs ++ [x]).map cg).sum) := by show _ = _; rw [hsum1]; omega
      have hb5 : Below w.heap.size w w5 := hBl.out.trans ⟨hg1.os, hg1.tape, hg1.output, hg1.size, fun k hk => hg1.block k (by have := hBl.out.size; omega) (fun e => by have := Hr.out.1; injection e with e; omega)⟩
      have hO5 : w5.ownsRow w4.heap.size 33 2 (.slice ar vs.length cr) vs.length (massC (pr vs)) := hO.out.kept hg1 (.inr fun e => by have := (hO.out.lt r e).1; have := Hr.out.2.1; omega)
      have B5 := hid hb5; have O5 := hid hO5; have RG1 := hid hrg1; have HS1 := hid hS1; have HLT := hid hlt; have W5 := hid (show w4.heap.size ≤ w5.heap.size by have := hW.out; omega)
      have HRG := hid hrg.out
      rw [HNX.out] at P2
      obtain ⟨s1, hs1'⟩ : ∃ s, numB (T - (vs.map cg).sum) = s := ⟨_, rfl⟩
      obtain ⟨s2, hs2⟩ : ∃ s, numB (cg x) = s := ⟨_, rfl⟩
      obtain ⟨s3, hs3⟩ : ∃ s, numB (T - ((vs ++ [x]).map cg).sum) = s := ⟨_, rfl⟩
      obtain ⟨s4, hs4⟩ : ∃ s, shB (cg x) T = s := ⟨_, rfl⟩
      obtain ⟨s5, hs5⟩ : ∃ s, zB x = s := ⟨_, rfl⟩
      rw [hs1', hs2, hs3] at P2
      rw [hs2, hs4] at P1
      rw [hs5] at PI
      rw [hs2] at hen hwc
      rw [hs1', hs2]
      have HS3 := hid hs3; have HS4 := hid hs4; have HS5 := hid hs5
      have HVL := hid hvl
      clear hlx hat hrg1 hlt hg1 hs1 hxc hS1 hsum hsum1 hvl hxb hb5 hO5 hs1' hs2 hs3 hs4 hs5 hrg hS hO hW hBl
      go_wp2_with fail
      refine (HPW _ (HLy.out.call B5.out)).out.mono ?_; rintro e w6 ⟨rfl, hb6⟩
      have B6 := hid (bnext B5.out hb6); have O6 := hid (owns_call O5.out hb6); have R6 := hid (RG1.out.kept (row := none) ⟨hb6.os, hb6.tape, hb6.output, hb6.size, fun k hk _ => hb6.block k hk⟩ (by simp) (by simp)); have W6 := hid (Nat.le_trans W5.out hb6.size)
      clear hb6 hen
      go_wp2_with fail
      refine (P1 _ (HLy.out.call B6.out)).out.mono ?_; rintro e w7 ⟨rfl, hb7⟩
      have B7 := hid (bnext B6.out hb7); have O7 := hid (owns_call O6.out hb7); have R7 := hid (R6.out.kept (row := none) ⟨hb7.os, hb7.tape, hb7.output, hb7.size, fun k hk _ => hb7.block k hk⟩ (by simp) (by simp)); have W7 := hid (Nat.le_trans W6.out hb7.size)
      clear hb7
      go_wp2_with fail
      refine (PI _ (HLy.out.call B7.out)).out.mono ?_; rintro e w8 ⟨rfl, hb8⟩
      have B8 := hid (bnext B7.out hb8); have O8 := hid (owns_call O7.out hb8); have R8 := hid (R7.out.kept (row := none) ⟨hb8.os, hb8.tape, hb8.output, hb8.size, fun k hk _ => hb8.block k hk⟩ (by simp) (by simp)); have W8 := hid (Nat.le_trans W7.out hb8.size)
      clear hb8
      have hw8 := W8.out
      obtain ⟨hr0, hr1, hr2⟩ := Hr.out
      have hvl := HVL.out
      go_wp2_with (at_builtin; refine wpList_append_own _ rfl _ _ 28 rfl w4.heap.size 33 i0 (.agg #[.string ⟨#[]⟩, .string ⟨#[]⟩]) 2 32 Tryz.underlying28 hi hz0 hz1 hz2 rfl (by decide) _ vs.length _ rfl (O8.out.alloc _) ⟨w8.heap.size, 0, none⟩ 1 1 [.string s5, .string s4] rfl rfl (cell_two_new w8 (.string s5) (.string s4) 33) (by simp [Value.oneCell']) (by unfold maxLen; omega) (by omega) (by simp; omega) ?_; intro v' w9 hown9 hgrow9 _)
      have O9 := hid hown9
      have B9 : Hid (Below w.heap.size w w9) := B8.out.trans ((Below.refl _ _).alloc (Nat.le_refl _) _ |>.mono (by have := B8.out.size; omega) |>.trans ⟨hgrow9.os, hgrow9.tape, hgrow9.output, hgrow9.size, fun k hk => hgrow9.block k (by have := B8.out.size; simp; omega) (fun e => by have := (O8.out.lt k e.symm).1; omega)⟩)
      have R9 := hid ((R8.out.alloc (.cells #[.string s5, .string s4] 33)).kept hgrow9 (fun e => by have := (O8.out.lt B e.symm).1; omega) (fun e => by have := (O8.out.lt r e.symm).1; omega))
      have W9 := hid (show w4.heap.size ≤ w9.heap.size by have := hgrow9.size; simp at this; omega)
      clear hown9 hgrow9 hw8 hr0 hr1 hr2 hvl
      go_wp2_with fail
      refine (P2 _ (HLy.out.call B9.out)).out.mono ?_; rintro e w10 ⟨rfl, hb10⟩
      have B10 := hid (bnext B9.out hb10); have O10 := hid (owns_call O9.out hb10); have R10 := hid (R9.out.kept (row := none) ⟨hb10.os, hb10.tape, hb10.output, hb10.size, fun k hk _ => hb10.block k hk⟩ (by simp) (by simp)); have W10 := hid (Nat.le_trans W9.out hb10.size)
      clear hb10
      go_wp2_with fail
      go_roundw
      case rel =>
        refine ⟨_, cnt1, vs ++ [x], R10, HS1, by rw [HS3.out], hid ?_, W10, B10⟩
        rw [List.length_append, List.length_singleton, HPR.out, massC_append, HS4.out, HS5.out]
        exact O10.out
      case measure => rw [R10.out.left_eq, HRG.out.left_eq]; exact HLT.out
end Go.Proofs.YtccalhlhdiapiaaGreatDoor
namespace Go.Proofs.YtccalhlhdiapiaaGreatDoor
open Go.RowKit
open Go.Lib (decDigits nDigits)
set_option linter.unusedVariables false
set_option linter.unusedSimpArgs false
/-- What a law of geom lists. -/
def glR (a : ByteArray) (n : Int) (two : Bool) : List (ByteArray × ByteArray) := if glE a n 32 = 0 then sortM (glP (gV (bN (cW a)) (bN (qD a)) two n.toNat) (2 ^ n.toNat) n.toNat (gL (bN (cW a)) (bN (qD a)) two n.toNat)) else []
set_option maxRecDepth 100000 in
set_option maxHeartbeats 1000000 in
theorem g_listed (w : World) (a : ByteArray) (n : Int) (two : Bool) (ha : a.size ≤ 100000) (hL : Lay w) :
    Calls Tryz.prog 33 #[.string a, .int .i64 n, .bool two] w fun e w' => (∃ v, e = .returned (.tuple #[v, .int .i64 (glE a n 32)]) ∧ MRow w' v (glR a n two)) ∧ Below w.heap.size w w' := by
  by_cases he : gPE a = 0
  · by_cases hn : n < 0 ∨ 32 < n
    · have e1 : glE a n 32 = 2 := by unfold glE; rw [if_neg (by rw [he]; simp), if_pos hn]
      have e2 : glR a n two = [] := by unfold glR; rw [if_neg (by rw [e1]; decide)]
      rw [e1, e2]
      have HA := hid (g_ratio w a ha hL)
      rw [if_pos he, if_pos he, he] at HA
      obtain ⟨b1, k1⟩ : ∃ b, decide (n < 0) = b := ⟨_, rfl⟩
      obtain ⟨b2, k2⟩ : ∃ b, decide (32 < n) = b := ⟨_, rfl⟩
      have k3 : (b1 || b2) = true := by rw [← k1, ← k2]; simpa using hn
      clear ha hL he hn e1 e2
      cases b1
      · obtain rfl : b2 = true := by simpa using k3
        clear k3
        go_enter Tryz.func33, Tryz.ntmps33
        go_wp2_with fail
        refine HA.out.mono ?_; rintro e w1 ⟨rfl, hb1⟩
        have B1 := hid hb1; clear hb1 HA
        go_wp2_with fail
        go_ret2
        exact ⟨⟨_, rfl, MRow.nil _⟩, B1.out⟩
      · clear k2 k3
        go_enter Tryz.func33, Tryz.ntmps33
        go_wp2_with fail
        refine HA.out.mono ?_; rintro e w1 ⟨rfl, hb1⟩
        have B1 := hid hb1; clear hb1 HA
        go_wp2_with fail
        go_ret2
        exact ⟨⟨_, rfl, MRow.nil _⟩, B1.out⟩
    · obtain ⟨m, rfl⟩ : ∃ m : Nat, n = (m : Nat) := ⟨n.toNat, by omega⟩
      have e1 : glE a (m : Nat) 32 = 0 := by unfold glE; rw [if_neg (by rw [he]; simp), if_neg hn]
      have hND := (gPE_ok he).2
      have := g_listed_ok (H := Unit) w a m _ _ two ha he (by omega) rfl rfl hND hL
      unfold glR
      rw [if_pos e1, e1, Int.toNat_natCast]
      exact this
  · have e1 : glE a n 32 = gPE a := by unfold glE; rw [if_pos he]
    have e2 : glR a n two = [] := by unfold glR; rw [if_neg (by rw [e1]; exact he)]
    rw [e1, e2]
    have HA := hid (g_ratio w a ha hL)
    rw [if_neg he, if_neg he] at HA
    obtain ⟨x, hx⟩ : ∃ x, gPE a = x := ⟨_, rfl⟩
    rw [hx] at HA he ⊢
    have x0 : (x != 0) = true := by simpa using he
    clear ha hL he hx e1 e2
    go_enter Tryz.func33, Tryz.ntmps33
    go_wp2_with fail
    refine HA.out.mono ?_; rintro e w1 ⟨rfl, hb1⟩
    have B1 := hid hb1; clear hb1 HA
    go_wp2_with fail
    go_ret2
    exact ⟨⟨_, rfl, MRow.nil _⟩, B1.out⟩
set_option maxRecDepth 100000 in
set_option maxHeartbeats 1000000 in
theorem g_OneLaw (w : World) (a : ByteArray) (n : Int) (ha : a.size ≤ 100000) (hL : Lay w) :
    Calls Tryz.prog 12 #[.string a, .int .i64 n] w fun e w' => (∃ v, e = .returned (.tuple #[v, .int .i64 (glE a n 32)]) ∧ MRow w' v (glR a n false)) ∧ Below w.heap.size w w' := by
  have H := hid (g_listed w a n false ha hL)
  obtain ⟨o, ho⟩ : ∃ o, glR a n false = o := ⟨_, rfl⟩
  obtain ⟨x, hx⟩ : ∃ x, glE a n 32 = x := ⟨_, rfl⟩
  rw [ho, hx] at H ⊢
  clear ha hL ho hx
  go_enter Tryz.func12, Tryz.ntmps12
  go_wp2_with fail
  refine H.out.mono ?_; rintro e w1 ⟨⟨v, rfl, hv⟩, hb1⟩
  have B1 := hid hb1; have V1 := hid hv; clear hb1 hv
  go_wp2_with fail
  go_ret2
  exact ⟨⟨_, rfl, V1.out⟩, B1.out⟩
set_option maxRecDepth 100000 in
set_option maxHeartbeats 1000000 in
theorem g_TwoLaw (w : World) (a : ByteArray) (n : Int) (ha : a.size ≤ 100000) (hL : Lay w) :
    Calls Tryz.prog 14 #[.string a, .int .i64 n] w fun e w' => (∃ v, e = .returned (.tuple #[v, .int .i64 (glE a n 32)]) ∧ MRow w' v (glR a n true)) ∧ Below w.heap.size w w' := by
  have H := hid (g_listed w a n true ha hL)
  obtain ⟨o, ho⟩ : ∃ o, glR a n true = o := ⟨_, rfl⟩
  obtain ⟨x, hx⟩ : ∃ x, glE a n 32 = x := ⟨_, rfl⟩
  rw [ho, hx] at H ⊢
  clear ha hL ho hx
  go_enter Tryz.func14, Tryz.ntmps14
  go_wp2_with fail
  refine H.out.mono ?_; rintro e w1 ⟨⟨v, rfl, hv⟩, hb1⟩
  have B1 := hid hb1; have V1 := hid hv; clear hb1 hv
  go_wp2_with fail
  go_ret2
  exact ⟨⟨_, rfl, V1.out⟩, B1.out⟩
end Go.Proofs.YtccalhlhdiapiaaGreatDoor
namespace Go.Proofs.YtccalhlhdiapiaaGreatDoor
open Go.RowKit Go.Shelf
open Go.Lib (decDigits nDigits)
set_option linter.unusedVariables false
/-- What comes of a text: where it is right, R and x. -/
def wB (R : ByteArray) (s : ByteArray) : ByteArray := if qE s = 0 then R else ⟨#[]⟩
def wE (x : Int) (s : ByteArray) : Int := if qE s = 0 then x else qE s
theorem isQ_of {w : World} {v : Value} {s : ByteArray} (hq : qE s = 0) (h : IsF w v (iM (cW s)) (bN (iD (cW s))) (bN (qD s))) : IsQ .u64 w v (vQ s) := by
  obtain ⟨N, D, rfl, h1, h2⟩ := h
  obtain ⟨e1, e2, e3⟩ := vQ_ok hq
  exact ⟨N, D, by rw [e1], by rw [e2]; exact h1, by rw [e3]; exact h2⟩
end Go.Proofs.YtccalhlhdiapiaaGreatDoor
namespace Go.Proofs.YtccalhlhdiapiaaGreatDoor
open Go.RowKit Go.Shelf
open Go.Lib (decDigits nDigits)
set_option linter.unusedVariables false
set_option linter.unusedSimpArgs false
set_option maxRecDepth 100000 in
set_option maxHeartbeats 1000000 in
theorem q_with (w : World) (s : ByteArray) (F : Nat) (cs : Array Value) (R : ByteArray) (x : Int) (hs : s.size ≤ 1000000) (hL : Lay w)
    (hen : ∀ args w, (callFunc F args).run Tryz.prog w = .ok (.enter F args) w)
    (hF : ∀ W v, qE s = 0 → Below w.heap.size w W → IsQ .u64 W v (vQ s) → Lay W → Calls Tryz.prog F (#[v] ++ cs) W fun e w' => e = .returned (.tuple #[.string R, .int .i64 x]) ∧ Below W.heap.size W w') :
    Calls Tryz.prog 129 #[.string s, .func (.func F) #[] cs] w fun e w' => e = .returned (.tuple #[.string (wB R s), .int .i64 (wE x s)]) ∧ Below w.heap.size w w' := by
  have HP := hid (f_Parse w s hs hL)
  have HL := hid hL
  have HF := hid hF
  clear hF hs hL
  by_cases h1 : qE s = 0
  · have e1 : wB R s = R := if_pos h1
    have e2 : wE x s = x := if_pos h1
    rw [e1, e2]
    have HQ := hid h1
    rw [h1] at HP
    clear h1 e1 e2
    go_enter Tryz.func129, Tryz.ntmps129
    go_wp2_with fail
    refine HP.out.mono ?_; rintro e w1 ⟨⟨v, rfl, hv, -⟩, hb1⟩
    have hq := isQ_of HQ.out (hv rfl)
    have y1 := hid hb1
    obtain ⟨N, D, hvv, hN, hD⟩ := hv rfl
    subst hvv
    obtain ⟨a, c, rfl, _⟩ := hN.openI
    obtain ⟨a', c', rfl, _⟩ := hD.openI
    obtain ⟨k, hk⟩ : ∃ k, (limbs (bN (iD (cW s)))).length = k := ⟨_, rfl⟩
    obtain ⟨k', hk'⟩ : ∃ k, (limbs (bN (qD s))).length = k := ⟨_, rfl⟩
    obtain ⟨m, hm⟩ : ∃ m, iM (cW s) = m := ⟨_, rfl⟩
    rw [hk, hk', hm] at hq
    rw [hk, hk', hm]
    have Q1 := hid hq
    have X2 := hid (Blk.new w1 #[.bool m, .slice a k c, .slice a' k' c'] 125)
    have b2 := hid ((Below.refl w1.heap.size w1).alloc (Nat.le_refl _) (.cells #[.bool m, .slice a k c, .slice a' k' c'] 125))
    have y2 := hid (bnext y1.out b2.out)
    have Q2 := hid (hq.call b2.out)
    have r0 := X2.out.cell 0
    have r1 := X2.out.cell 1
    have r2 := X2.out.cell 2
    simp at r0 r1 r2
    clear hb1 hv hN hD hk hk' hm hq b2
    go_wp2_with fail
    refine (HF.out _ _ HQ.out y2.out Q2.out (HL.out.call y2.out)).mono ?_; rintro e w3 ⟨rfl, hb3⟩
    have y3 := hid (bnext y2.out hb3); clear hb3
    go_wp2_with fail
    go_ret2
    exact ⟨rfl, y3.out⟩
  · have e1 : wB R s = ⟨#[]⟩ := if_neg h1
    have e2 : wE x s = qE s := if_neg h1
    rw [e1, e2]
    obtain ⟨y, hy⟩ : ∃ y, qE s = y := ⟨_, rfl⟩
    rw [hy] at HP h1 ⊢
    have q0 : (y == 0) = false := by simpa using h1
    have q1 : (y != 0) = true := by simpa using h1
    have H1 := hid h1
    clear e1 e2 hy h1
    go_enter Tryz.func129, Tryz.ntmps129
    go_wp2_with fail
    refine HP.out.mono ?_; rintro e w1 ⟨⟨v, rfl, -, hv⟩, hb1⟩
    have hv' := hv H1.out
    subst hv'
    have y1 := hid hb1
    have y2 := hid (y1.out.alloc y1.out.size (.cells #[.bool false, .slice none 0 0, .slice none 0 0] 125))
    clear hb1 hv
    go_wp2_with fail
    go_ret2
    exact ⟨rfl, y2.out⟩
end Go.Proofs.YtccalhlhdiapiaaGreatDoor
namespace Go.Proofs.YtccalhlhdiapiaaGreatDoor
open Go.RowKit Go.Shelf
open Go.Lib (decDigits nDigits)
set_option linter.unusedVariables false
set_option linter.unusedSimpArgs false
/-- What comes of two texts. -/
def tB (R : ByteArray) (s t : ByteArray) : ByteArray := wB (wB R t) s
def tE (x : Int) (s t : ByteArray) : Int := wE (wE x t) s
set_option maxRecDepth 100000 in
set_option maxHeartbeats 1000000 in
theorem q_both11 (w : World) (v u : Value) (p q : Rat) (F g1 g2 : Nat) (R : ByteArray) (x : Int) (hv : IsQ .u64 w v p) (hu : IsQ .u64 w u q) (hL : Lay w)
    (hen : ∀ args w, (callFunc F args).run Tryz.prog w = .ok (.enter F args) w)
    (c1 : w.cell? ⟨g1, 0, none⟩ = some (.func (.func F) #[] #[])) (m : Bool) (a a' : Option Addr) (k c k' c' : Nat) (hv0 : v = .agg #[.bool m, .slice a k c, .slice a' k' c'])
    (c2 : Blk w g2 #[.bool m, .slice a k c, .slice a' k' c'] 125)
    (hF : ∀ W v u, IsQ .u64 W v p → IsQ .u64 W u q → Lay W → Calls Tryz.prog F #[v, u] W fun e w' => e = .returned (.tuple #[.string R, .int .i64 x]) ∧ Below W.heap.size W w') :
    Calls Tryz.prog 185 #[u, .pointer (some ⟨g1, 0, none⟩), .pointer (some ⟨g2, 0, none⟩)] w fun e w' => e = .returned (.tuple #[.string R, .int .i64 x]) ∧ Below w.heap.size w w' := by
  have HF := hid hF
  have HL := hid hL
  obtain ⟨N, D, rfl, hN, hD⟩ := hu.ex
  obtain ⟨a1, d1, rfl, _⟩ := hN.openI
  obtain ⟨a2, d2, rfl, _⟩ := hD.openI
  obtain ⟨k1, hk1⟩ : ∃ k, (limbs q.num.natAbs).length = k := ⟨_, rfl⟩
  obtain ⟨k2, hk2⟩ : ∃ k, (limbs q.den).length = k := ⟨_, rfl⟩
  obtain ⟨mu, hmu⟩ : ∃ m, decide (q.num < 0) = m := ⟨_, rfl⟩
  rw [hk1, hk2, hmu] at hu
  rw [hk1, hk2, hmu]
  subst hv0
  have X2 := hid (Blk.new w #[.bool mu, .slice a1 k1 d1, .slice a2 k2 d2] 125)
  have b2 := hid ((Below.refl w.heap.size w).alloc (Nat.le_refl _) (.cells #[.bool mu, .slice a1 k1 d1, .slice a2 k2 d2] 125))
  have V2 := hid (hv.call b2.out)
  have U2 := hid (hu.call b2.out)
  have C1 := (b2.out.cell (cell_lt c1)).trans c1
  have C2 := hid (c2.call b2.out)
  have r0 := X2.out.cell 0
  have r1 := X2.out.cell 1
  have r2 := X2.out.cell 2
  have s0 := C2.out.cell 0
  have s1 := C2.out.cell 1
  have s2 := C2.out.cell 2
  simp at r0 r1 r2 s0 s1 s2
  clear hk1 hk2 hmu hN hD hv hu c1 c2 hF hL
  go_enter Tryz.func185, Tryz.ntmps185
  go_wp2_with fail
  refine (HF.out _ _ _ V2.out U2.out (HL.out.call b2.out)).mono ?_; rintro e w3 ⟨rfl, hb3⟩
  have y3 := hid (bnext b2.out hb3); clear hb3
  go_wp2_with fail
  go_ret2
  exact ⟨rfl, y3.out⟩
set_option maxRecDepth 100000 in
set_option maxHeartbeats 1000000 in
theorem q_both1 (w : World) (v : Value) (t : ByteArray) (p : Rat) (F g1 g2 : Nat) (R : ByteArray) (x : Int) (ht : t.size ≤ 1000000) (hv : IsQ .u64 w v p) (hL : Lay w)
    (hen : ∀ args w, (callFunc F args).run Tryz.prog w = .ok (.enter F args) w)
    (c1 : w.cell? ⟨g1, 0, none⟩ = some (.string t)) (c2 : w.cell? ⟨g2, 0, none⟩ = some (.func (.func F) #[] #[]))
    (hF : ∀ W v u, qE t = 0 → IsQ .u64 W v p → IsQ .u64 W u (vQ t) → Lay W → Calls Tryz.prog F #[v, u] W fun e w' => e = .returned (.tuple #[.string R, .int .i64 x]) ∧ Below W.heap.size W w') :
    Calls Tryz.prog 184 #[v, .pointer (some ⟨g1, 0, none⟩), .pointer (some ⟨g2, 0, none⟩)] w fun e w' => e = .returned (.tuple #[.string (wB R t), .int .i64 (wE x t)]) ∧ Below w.heap.size w w' := by
  have HF := hid hF
  have HL := hid hL
  have HEN := hid hen
  obtain ⟨N, D, rfl, hN, hD⟩ := hv.ex
  obtain ⟨a1, d1, rfl, _⟩ := hN.openI
  obtain ⟨a2, d2, rfl, _⟩ := hD.openI
  obtain ⟨k1, hk1⟩ : ∃ k, (limbs p.num.natAbs).length = k := ⟨_, rfl⟩
  obtain ⟨k2, hk2⟩ : ∃ k, (limbs p.den).length = k := ⟨_, rfl⟩
  obtain ⟨mu, hmu⟩ : ∃ m, decide (p.num < 0) = m := ⟨_, rfl⟩
  rw [hk1, hk2, hmu] at hv
  rw [hk1, hk2, hmu]
  have X2 := hid (Blk.new w #[.bool mu, .slice a1 k1 d1, .slice a2 k2 d2] 125)
  have b2 := hid ((Below.refl w.heap.size w).alloc (Nat.le_refl _) (.cells #[.bool mu, .slice a1 k1 d1, .slice a2 k2 d2] 125))
  have V2 := hid (hv.call b2.out)
  have C1 := (b2.out.cell (cell_lt c1)).trans c1
  have C2 := hid ((b2.out.cell (cell_lt c2)).trans c2)
  have L2 := hid (HL.out.call b2.out)
  obtain ⟨w2, hw2⟩ : ∃ w2, w.alloc (.cells #[.bool mu, .slice a1 k1 d1, .slice a2 k2 d2] 125) = w2 := ⟨_, rfl⟩
  obtain ⟨g3, hg3⟩ : ∃ g, w.heap.size = g := ⟨_, rfl⟩
  have W2 := hid (q_with w2 t 185 #[.pointer (some ⟨g2, 0, none⟩), .pointer (some ⟨g3, 0, none⟩)] R x ht (hw2 ▸ L2.out) (enters_of Tryz.func185 (by kernel_rfl) rfl)
    (fun W u hq hb hu hLW => by
      subst hw2
      subst hg3
      have hVW := V2.out.call hb
      have hX := X2.out.call hb
      have hC := (hb.cell (cell_lt C2.out)).trans C2.out
      exact q_both11 W _ u p (vQ t) F g2 w.heap.size R x hVW hu hLW HEN.out hC mu a1 a2 k1 d1 k2 d2 rfl hX (fun W v u h1 h2 h3 => HF.out W v u hq h1 h2 h3)))
  rw [hw2] at C1
  clear hk1 hk2 hmu hN hD hv c1 c2 hF hL hen
  go_enter Tryz.func184, Tryz.ntmps184
  go_wp2_with fail
  refine W2.out.mono ?_; rintro e w3 ⟨rfl, hb3⟩
  have y3 := hid (bnext b2.out (hw2 ▸ hb3)); clear hb3
  go_wp2_with fail
  go_ret2
  exact ⟨rfl, y3.out⟩
end Go.Proofs.YtccalhlhdiapiaaGreatDoor
namespace Go.Proofs.YtccalhlhdiapiaaGreatDoor
open Go.RowKit
set_option linter.unusedVariables false
set_option linter.unusedSimpArgs false
/-- The six cells of two fractions that lie in the blocks b and b + 1. -/
def twoF (b : Nat) (m1 m2 : Bool) (n1 d1 n2 d2 : Value) (w : World) : Prop :=
  w.cell? ⟨b, 0, none⟩ = some (.bool m1) ∧ w.cell? ⟨b, 1, none⟩ = some n1 ∧ w.cell? ⟨b, 2, none⟩ = some d1 ∧ w.cell? ⟨b + 1, 0, none⟩ = some (.bool m2) ∧ w.cell? ⟨b + 1, 1, none⟩ = some n2 ∧ w.cell? ⟨b + 1, 2, none⟩ = some d2
/-- Three blocks are laid: two fractions and a result. -/
structure Three (w W : World) (m1 m2 : Bool) (n1 d1 n2 d2 : Value) : Prop where
  below : Below w.heap.size w W
  size : W.heap.size = w.heap.size + 3
  b0 : Blk W w.heap.size #[.bool m1, n1, d1] 125
  b1 : Blk W (w.heap.size + 1) #[.bool m2, n2, d2] 125
  b2 : Blk W (w.heap.size + 1 + 1) #[.bool false, .slice none 0 0, .slice none 0 0] 125
theorem Three.mk' {w W : World} {m1 m2 : Bool} {n1 d1 n2 d2 : Value} (h : ((w.alloc (.cells #[.bool m1, n1, d1] 125)).alloc (.cells #[.bool m2, n2, d2] 125)).alloc (.cells #[.bool false, .slice none 0 0, .slice none 0 0] 125) = W) : Three w W m1 m2 n1 d1 n2 d2 := by
  subst h
  exact ⟨(((Below.refl _ _).alloc (Nat.le_refl _) _).alloc (by simp) _).alloc (by simp; omega) _, by simp, ((Blk.new w _ _).alloc _).alloc _, (Blk.made (w.alloc _) _ _ (by simp)).alloc _, Blk.made ((w.alloc _).alloc _) _ _ (by simp)⟩
theorem Three.cells {w W V : World} {m1 m2 : Bool} {n1 d1 n2 d2 : Value} (h : Three w W m1 m2 n1 d1 n2 d2) (hb : Below W.heap.size W V) : twoF w.heap.size m1 m2 n1 d1 n2 d2 V :=
  have y0 := h.b0.call hb
  have y1 := h.b1.call hb
  ⟨y0.cell 0, y0.cell 1, y0.cell 2, y1.cell 0, y1.cell 1, y1.cell 2⟩
/-- Behind the stores into the result. -/
theorem Three.stored {w W V : World} {m1 m2 : Bool} {n1 d1 n2 d2 : Value} (h : Three w W m1 m2 n1 d1 n2 d2) (hb : Below W.heap.size W V) (x y z : Value) : twoF w.heap.size m1 m2 n1 d1 n2 d2 (((V.setCell ⟨w.heap.size + 1 + 1, 0, none⟩ x).setCell ⟨w.heap.size + 1 + 1, 1, none⟩ y).setCell ⟨w.heap.size + 1 + 1, 2, none⟩ z) :=
  have y0 := ((((h.b0.call hb).other (a := ⟨w.heap.size + 1 + 1, 0, none⟩) (by simp; omega) x).other (a := ⟨w.heap.size + 1 + 1, 1, none⟩) (by simp; omega) y).other (a := ⟨w.heap.size + 1 + 1, 2, none⟩) (by simp; omega) z)
  have y1 := ((((h.b1.call hb).other (a := ⟨w.heap.size + 1 + 1, 0, none⟩) (by simp) x).other (a := ⟨w.heap.size + 1 + 1, 1, none⟩) (by simp) y).other (a := ⟨w.heap.size + 1 + 1, 2, none⟩) (by simp) z)
  ⟨y0.cell 0, y0.cell 1, y0.cell 2, y1.cell 0, y1.cell 1, y1.cell 2⟩
set_option maxRecDepth 100000 in
set_option maxHeartbeats 2000000 in
theorem f_Mul (w : World) (v u : Value) (p q : Rat) (hp : IsQ .u64 w v p) (hq : IsQ .u64 w u q)
    (h1 : (limbs p.num.natAbs).length ≤ 100000) (h2 : (limbs p.den).length ≤ 100000) (h3 : (limbs q.num.natAbs).length ≤ 100000) (h4 : (limbs q.den).length ≤ 100000) :
    Calls Tryz.prog 136 #[v, u] w fun e w' => RetQ .u64 (p * q) e w' ∧ Below w.heap.size w w' := by
  have hq0 := qmk_mul p q
  obtain ⟨Q, hQ⟩ : ∃ Q, p * q = Q := ⟨_, rfl⟩
  rw [hQ] at hq0 ⊢
  have hD := hid (Nat.mul_pos p.den_pos q.den_pos)
  obtain ⟨N1, D1, rfl, hn1, hd1⟩ := hp.ex
  obtain ⟨N2, D2, rfl, hn2, hd2⟩ := hq.ex
  clear hp hq hQ
  generalize decide (p.num < 0) = m1 at *
  generalize decide (q.num < 0) = m2 at *
  generalize p.num.natAbs = n1 at *
  generalize q.num.natAbs = n2 at *
  generalize p.den = d1 at *
  generalize q.den = d2 at *
  have HQ := hid hq0
  clear hq0
  have HN1 := hid hn1; have HD1 := hid hd1; have HN2 := hid hn2; have HD2 := hid hd2
  have L1 := hid (Nat.le_trans (len_mul h1 h3) (show 100000 + 100000 ≤ 1000000 by omega))
  have L2 := hid (Nat.le_trans (len_mul h2 h4) (show 100000 + 100000 ≤ 1000000 by omega))
  have H1 := hid (Nat.le_trans h1 (show 100000 ≤ 1000000 by omega))
  have H2 := hid (Nat.le_trans h2 (show 100000 ≤ 1000000 by omega))
  have H3 := hid (Nat.le_trans h3 (show 100000 ≤ 1000000 by omega))
  have H4 := hid (Nat.le_trans h4 (show 100000 ≤ 1000000 by omega))
  clear h1 h2 h3 h4
  obtain ⟨a1, c1, rfl, _⟩ := hn1.openI
  obtain ⟨a2, c2, rfl, _⟩ := hd1.openI
  obtain ⟨a3, c3, rfl, _⟩ := hn2.openI
  obtain ⟨a4, c4, rfl, _⟩ := hd2.openI
  clear hn1 hd1 hn2 hd2
  go_enter Tryz.func136, Tryz.ntmps136
  go_wp2_with fail
  obtain ⟨W, hW⟩ : ∃ W, ((w.alloc (.cells #[.bool m1, .slice a1 (limbs n1).length c1, .slice a2 (limbs d1).length c2] 125)).alloc (.cells #[.bool m2, .slice a3 (limbs n2).length c3, .slice a4 (limbs d2).length c4] 125)).alloc (.cells #[.bool false, .slice none 0 0, .slice none 0 0] 125) = W := ⟨_, rfl⟩
  have T := hid (Three.mk' hW)
  rw [hW]
  clear hW
  have hS := T.out.cells (Below.refl _ _).drew
  have B0 := hid (T.out.below.drew)
  have C0 := hid ((Below.refl W.heap.size W).drew)
  refine held_plain [0, 1, 2, 3, 4, 5, 6, 7, 8, 10, 11, 12, 13] 4 (twoF w.heap.size m1 m2 (.slice a1 (limbs n1).length c1) (.slice a2 (limbs d1).length c2) (.slice a3 (limbs n2).length c3) (.slice a4 (limbs d2).length c4)) (by kernel_rfl) (by kernel_rfl) (by kernel_rfl) (by kernel_rfl) hS ?_
  iterate 13
    refine ⟨_, rfl, ?_⟩
    apply Exists.intro
    refine ⟨.inl ⟨by rfl, ?_⟩, ?_⟩
    · (intro W' hW'; obtain ⟨q1, q2, q3, q4, q5, q6⟩ := hW'; go_simp; try (with_reducible rfl))
    (dsimp only [Act.put]; try simp only [List.setIfInBounds_toArray, List.set_cons_zero, List.set_cons_succ])
  clear hS
  refine held_one (i := 9) (by kernel_rfl) (by rfl) (by rfl) ?_
  go_wp2_with fail
  refine (l_Mul _ _ _ n1 n2 (HN1.out.call B0.out) (HN2.out.call B0.out) H1.out H3.out).mono ?_; rintro e w1 ⟨⟨v1, rfl, hv1⟩, hb1⟩
  have B1 := hid (B0.out.trans (hb1.mono B0.out.size)); have C1 := hid (bnext C0.out hb1); have V1 := hid hv1
  clear hb1 hv1
  go_wp2_with fail
  refine ⟨T.out.cells C1.out, ?_⟩
  refine held_one (i := 14) (by kernel_rfl) (by rfl) (by rfl) ?_
  go_wp2_with fail
  refine (l_Mul _ _ _ d1 d2 (HD1.out.call B1.out) (HD2.out.call B1.out) H2.out H4.out).mono ?_; rintro e w2 ⟨⟨v2, rfl, hv2⟩, hb2⟩
  have B2 := hid (B1.out.trans (hb2.mono B1.out.size)); have C2 := hid (bnext C1.out hb2); have V2 := hid hv2; have W1 := hid (V1.out.call hb2)
  clear hb2 hv2
  go_wp2_with fail
  refine ⟨T.out.cells C2.out, ?_⟩
  refine held_one (i := 15) (by kernel_rfl) (by rfl) (by rfl) ?_
  go_wp2_with fail
  refine (f_Make _ _ _ _ (n1 * n2) (d1 * d2) W1.out V2.out hD.out L1.out L2.out).mono ?_; rintro e w3 ⟨⟨v3, rfl, hv3⟩, hb3⟩
  have hbn : (!(m1 == m2)) = (m1 != m2) := rfl
  rw [hbn, HQ.out] at hv3
  clear hbn
  have B3 := hid (B2.out.trans (hb3.mono B2.out.size)); have C3 := hid (bnext C2.out hb3)
  clear hb3
  obtain ⟨N3, D3, rfl, hN3, hD3⟩ := hv3.ex
  obtain ⟨a5, c5, rfl, _⟩ := hN3.openI
  obtain ⟨a6, c6, rfl, _⟩ := hD3.openI
  obtain ⟨k5, hk5⟩ : ∃ k, (limbs Q.num.natAbs).length = k := ⟨_, rfl⟩
  obtain ⟨k6, hk6⟩ : ∃ k, (limbs Q.den).length = k := ⟨_, rfl⟩
  obtain ⟨mq, hmq⟩ : ∃ m, decide (Q.num < 0) = m := ⟨_, rfl⟩
  rw [hk5] at hN3 ⊢
  rw [hk6] at hD3 ⊢
  rw [hmq]
  have HN3 := hid hN3; have HD3 := hid hD3; have HMQ := hid hmq
  have Z := hid (T.out.b2.call C3.out)
  have t0 := Z.out.cell 0
  have t1 := Z.out.cell 1
  have t2 := Z.out.cell 2
  have t3 := Z.out.free 0
  have t4 := Z.out.free 1
  have t5 := Z.out.free 2
  simp at t0 t1 t2
  clear hv3 hN3 hD3 hk5 hk6 hmq
  go_wp2_with fail
  refine ⟨T.out.cells C3.out, ?_⟩
  refine held_one (i := 16) (by kernel_rfl) (by rfl) (by rfl) ?_
  go_wp2_with fail
  refine ⟨T.out.stored C3.out _ _ _, ?_⟩
  refine wpAnyH_done (by kernel_rfl) ?_ _
  simp only [Only]
  obtain ⟨s1, s2⟩ := set3 Z.out mq a5 a6 k5 c5 k6 c6
  have f0 := s2.cell 0
  have f1 := s2.cell 1
  have f2 := s2.cell 2
  simp at f0 f1 f2
  clear t0 t1 t2 t3 t4 t5
  go_wp2_with fail
  refine bodyPost_ret (v := .agg #[.bool mq, .slice a5 k5 c5, .slice a6 k6 c6]) (by simp [results, Tryz.results136, go_sem, f0, f1, f2]) rfl ⟨⟨_, rfl, ⟨.slice a5 k5 c5, .slice a6 k6 c6, by rw [HMQ.out], s1 _ _ _ HN3.out, s1 _ _ _ HD3.out⟩⟩, ?_⟩
  exact ((B3.out.setCell (by simp; omega) _).setCell (by simp; omega) _).setCell (by simp; omega) _
end Go.Proofs.YtccalhlhdiapiaaGreatDoor
