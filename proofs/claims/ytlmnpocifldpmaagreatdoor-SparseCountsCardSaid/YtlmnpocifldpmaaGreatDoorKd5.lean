/- Texts that the proof rests on, merged: R1g, R1h, R1i, R1j, R2a, QPlus, Dig, R2m, Pc0, Pl4, Pl5, Pl6, Rp10, R21s, Cv1, Tot, Cv2, Sh4, G1c, G2, QD, G3, G4, G5, C1, C2h, C2, Coin2, Coins, Ser. -/
import Derived.Test.YtlmnpocifldpmaaGreatDoorKd4
import Derived.IntWalk
import Derived.Deep.DeepCutAuto
import Derived.Deep.CutBlock
import Derived.Deep.AppendLies
import Derived.Sort.KeysCollected
import Derived.Test.YtlmnpocifldpmaaGreatDoorProg
import Derived.Maps.StringElems
import Derived.Shelf.Small.Wraps
import Derived.Shelf.Strings.Shaped
import Derived.Ground.NamesProg
set_option linter.unusedVariables false
set_option linter.unusedSimpArgs false
set_option linter.unusedSectionVars false
set_option maxRecDepth 100000
set_option maxHeartbeats 8000000
namespace Go.Proofs.YtlmnpocifldpmaaGreatDoor
open Go.RowKit
def RetArr (k : IntKind) (t : TypeId) (B n len : Nat) (e : Ending) (w' : World) : Prop := ∃ g o, e = .returned (.slice (some ⟨g, 0, none⟩) len len) ∧ B ≤ g ∧ Arr k t w' g o ∧ o.length = len ∧ Sm o ∧ val o = n
theorem r1_scaled (w : World) (v : Value) (a d : Nat) (ha : IsN .i64 w v a) (hd1 : d < 1000000000) (hla : (limbs a).length ≤ 1000000) :
 Calls Tryz.prog 254 #[v, .int .i64 d] w fun e w' => RetArr .i64 3 w.heap.size (a * d) ((limbs a).length + 1) e w' ∧ Below w.heap.size w w' := by
 obtain ⟨a1, c1, rfl, h1, h2, h3⟩ := ha.openI
 have H3 := hid h3; clear h3 ha
 obtain ⟨n, ea⟩ : ∃ n, (limbs a).length = n := ⟨_, rfl⟩
 rw [ea] at h1 hla ⊢
 have HA := hid ea
 clear ea
 have hmk : ∀ W : World, (Instr.makeSlice 89 (.int .i64 ((n : Int) + 1)) (.int .i64 ((n : Int) + 1))).run Tryz.prog W = .ok (.slice (some ⟨W.heap.size, 0, none⟩) (n + 1) (n + 1)) (W.alloc (.cells (madeCells #[.int .i64 0] (n + 1)) 3)) := fun W => by
  have := make_limbs (n + 1) (by omega) W
  rwa [Int.natCast_add] at this
 go_enter Tryz.func254, Tryz.ntmps254
 go_wp2_with fail
 clear hmk
 go_loopw [6, 7, 8] (fun cc ii nn wr => ∃ (i c : Nat) (o : List Nat), cc = .int .i64 c ∧ ii = .int .i64 i ∧ i ≤ n ∧ Hid (ScaleI a d i c o) ∧ Hid (Arr .i64 3 wr w.heap.size o) ∧ Hid (Below w.heap.size w wr)) (fun _ ii _ _ => n - (intOf ii).toNat)
 case atStart => exact ⟨0, 0, _, rfl, rfl, Nat.zero_le _, ScaleI.start a d, by rw [HA.out]; exact Arr.made w .i64 3 (n + 1), (Below.refl _ _).alloc (Nat.le_refl _) _⟩
 case round =>
  obtain ⟨i, c, o, rfl, rfl, hin, hS, hO, hB⟩ := hrel
  have hsz : Hid (o.length = n + 1) := by rw [Hid, hS.out.len, HA.out]
  by_cases hlt : i < n
  ·obtain ⟨x, hx⟩ : ∃ x, (limbs a)[i]? = some x := ⟨_, List.getElem?_eq_getElem (by rw [HA.out]; exact hlt)⟩
   obtain ⟨g, og, rfl, hg, hc⟩ := H3.out _ x hx
   have d1 := (hB.out.cell (p := ⟨g, og + i, none⟩) hg).trans hc
   obtain ⟨z, hz⟩ : ∃ z, o[i]? = some z := ⟨_, List.getElem?_eq_getElem (by rw [hsz.out]; omega)⟩
   have d3 := hO.out.cell hz
   have d4 := hO.out.free i
   have HN := hid (hS.out.next hd1 hx)
   have hb1 := mul_bound (old := 0) (by omega) ((sm_limbs a).get hx) hd1 hS.out.c1
   have hcl := hS.out.c1
   clear hx hc hz
   have HP := hid (show ((x : Int) * (d : Int)) = ((x * d : Nat) : Int) from (Int.natCast_mul x d).symm)
   obtain ⟨p, hp⟩ : ∃ p, x * d = p := ⟨_, rfl⟩
   rw [hp] at hb1 HN HP
   have hp2 := hb1.2; clear hb1 hp
   have e5 : IntKind.i64.wrap ((x : Int) * (d : Int)) = (p : Int) := by rw [HP.out]; exact IntWalk.i64_in _ (by omega)
   have e5' : wrap64 ((x : Int) * (d : Int)) = (p : Int) := by rw [HP.out]; exact IntWalk.wrap64_in _ (by omega)
   go_wp2_with fail
   clear e5 e5'
   go_roundw
   case rel =>
    have hz : (((p : Int) + c) % 1000000000) = (((p + c) % 1000000000 : Nat) : Int) := by omega
    rw [hz]
    exact ⟨i + 1, (p + c) / 1000000000, _, by go_num, by go_num, by omega, HN, hO.out.set i _, below_set hB.out (Nat.le_refl _) _⟩
   case measure => simp [intOf] <;> omega
  ·obtain rfl : i = n := by omega
   obtain ⟨z, hz⟩ : ∃ z, o[i]? = some z := ⟨_, List.getElem?_eq_getElem (by rw [hsz.out]; omega)⟩
   have d3 := hO.out.cell hz
   have d4 := hO.out.free i
   clear hz
   have hD := hid (show val (o.set i c) = a * d ∧ Sm (o.set i c) ∧ (o.set i c).length = i + 1 from by have := hS.out; rw [← HA.out] at this ⊢; exact this.done)
   go_wp2_with fail
   go_ret
   exact ⟨⟨w.heap.size, _, rfl, Nat.le_refl _, hO.out.set i c, hD.out.2.2, hD.out.2.1, hD.out.1⟩, below_set hB.out (Nat.le_refl _) _⟩
def StepOut (us vs : List Nat) (gu j n : Nat) (w : World) (e : Ending) (w' : World) : Prop :=
 e = .returned (.int .i64 ((val ((us.drop j).take (n + 1)) / val vs : Nat) : Int)) ∧ ∃ o, WinOut us j n (val ((us.drop j).take (n + 1)) % val vs) o ∧ Arr .i64 3 w' gu o ∧ w.grownBy w' (some gu)
theorem r1_step (w : World) (gu j cu : Nat) (us : List Nat) (gv ov cv : Nat) (vs : List Nat) (n : Nat) (hS : StepIn us vs j n) (hU : Arr .i64 3 w gu us) (hV : Row w (.slice (some ⟨gv, ov, none⟩) n cv) (ints .i64 vs)) (hne : gv ≠ gu) :
 Calls Tryz.prog 255 #[.slice (some ⟨gu, j, none⟩) (n + 1) cu, .slice (some ⟨gv, ov, none⟩) n cv] w fun e w' => StepOut us vs gu j n w e w' := by
 have n2 := hS.n2; have nm := hS.nm; have lu := hS.lu; have um := hS.um
 have cv' : ∀ i, i < n → w.cell? ⟨gv, ov + i, none⟩ = some (.int .i64 (vs.getD i 0 : Nat)) := fun i hi => by
  obtain ⟨g, o, e, hg, hc⟩ := hV.at (ints_get (getD_some (l := vs) (i := i) (by rw [hS.lv]; exact hi)))
  simp at e
  obtain ⟨rfl, rfl⟩ := e
  exact hc
 have cu' : ∀ i, i ≤ n → w.cell? ⟨gu, j + i, none⟩ = some (.int .i64 (us.getD (j + i) 0 : Nat)) := fun i hi => hU.cell (getD_some (by omega))
 have hE := hid hS.est
 have a0 := cu' n (Nat.le_refl _)
 have a1 := cu' (n - 1) (by omega)
 have a2 := cu' (n - 2) (by omega)
 have b1 := cv' (n - 1) (by omega)
 have b2 := cv' (n - 2) (by omega)
 have CV := hid cv'; have CU := hid cu'; have HS := hid hS; have HU := hid hU
 clear cv' cu' hS hU hV
 obtain ⟨u0, hu0⟩ : ∃ x, us.getD (j + n) 0 = x := ⟨_, rfl⟩
 obtain ⟨u1, hu1⟩ : ∃ x, us.getD (j + (n - 1)) 0 = x := ⟨_, rfl⟩
 obtain ⟨u2, hu2⟩ : ∃ x, us.getD (j + (n - 2)) 0 = x := ⟨_, rfl⟩
 obtain ⟨v1, hv1⟩ : ∃ x, vs.getD (n - 1) 0 = x := ⟨_, rfl⟩
 obtain ⟨v2, hv2⟩ : ∃ x, vs.getD (n - 2) 0 = x := ⟨_, rfl⟩
 rw [hu0, hu1, hu2, hv1, hv2] at hE
 rw [hu0] at a0; rw [hu1] at a1; rw [hu2] at a2; rw [hv1] at b1; rw [hv2] at b2
 have HU0 := hid hu0; clear hu0 hu1 hu2 hv1 hv2
 have l0 := hE.out.b0; have l1 := hE.out.b1; have l2 := hE.out.b2; have l3 := hE.out.c1; have l4 := hE.out.c2; have l5 := hE.out.v0
 have dz : ((v1 : Int) == 0) = false := by simp; omega
 have f1 : (0 : Int) ≤ (n : Int) - 1 := by omega
 have f2 : (n : Int) - 1 < (n : Int) + 1 := by omega
 have f3 : (n : Int) - 1 < (n : Int) := by omega
 have f4 : (0 : Int) ≤ (n : Int) - 2 := by omega
 have f5 : (n : Int) - 2 < (n : Int) + 1 := by omega
 have f6 : (n : Int) - 2 < (n : Int) := by omega
 have f7 : (0 : Int) ≤ (n : Int) := by omega
 have f8 : (n : Int) < (n : Int) + 1 := by omega
 have e1 : IntKind.i64.wrap ((n : Int) - 1) = (n : Int) - 1 := IntWalk.i64_in _ (by omega)
 have e2 : IntKind.i64.wrap ((n : Int) - 2) = (n : Int) - 2 := IntWalk.i64_in _ (by omega)
 have e3 : ((n : Int) - 1).toNat = n - 1 := by omega
 have e4 : ((n : Int) - 2).toNat = n - 2 := by omega
 have e5 : IntKind.i64.wrap ((u0 : Int) * 1000000000) = (u0 : Int) * 1000000000 := IntWalk.i64_in _ (by omega)
 have e6 : IntKind.i64.wrap ((u0 : Int) * 1000000000 + u1) = (u0 : Int) * 1000000000 + u1 := IntWalk.i64_in _ (by omega)
 go_enter Tryz.func255, Tryz.ntmps255
 go_wp2_with fail
 go_quiet (fail)
 clear e5 e6
 go_wp2_with fail
 go_quiet (fail)
 go_upto_block 0 with (fail)
 rename_i nq1 nq2
 obtain ⟨V, hV⟩ : ∃ V, val vs = V := ⟨_, rfl⟩
 obtain ⟨U, hU⟩ : ∃ U, val ((us.drop j).take (n + 1)) = U := ⟨_, rfl⟩
 rw [hU, hV] at hE
 have HVU := hid (And.intro hU hV); clear hU hV
 go_cut [7] (fun gg wx => ∃ (G q : Nat), gg = .int .i64 G ∧ wx = w.drewN q ∧ G < 1000000000 ∧ Hid (U / V ≤ G ∧ G * V < U + V))
 case first =>
  go_wp2_with fail
  go_loopw [7, 8] (fun gg rr wr => ∃ G R q : Nat, gg = .int .i64 G ∧ rr = .int .i64 R ∧ wr = w.drewN q ∧ Hid (EstI U V u0 u1 v1 G R)) (fun gg _ _ => (intOf gg).toNat)
  case atStart =>
   exact ⟨_, _, _, by rw [Int.natCast_ediv]; rfl, by rw [Int.natCast_emod]; rfl, by rw [World.drewN_drewN], EstI.start hE.out⟩
  case round =>
   obtain ⟨G, R, q, rfl, rfl, rfl, hI⟩ := hrel
   have g2 := hI.out.g2; have r2 := hI.out.r2
   by_cases hR : R < 1000000000
   ·have q1 : decide ((R : Int) < 1000000000) = true := by simp; omega
    by_cases hG : 1000000000 ≤ G
    ·have q2 : decide ((1000000000 : Int) ≤ (G : Int)) = true := by simp; omega
     have HN := hid (hI.out.big hE.out hR hG)
     go_wp2_with fail
     go_big_quiet (fail)
     clear q1 q2
     go_wp2_with fail
     go_quiet (fail)
     go_wp2_with fail
     go_roundw
     case rel => exact ⟨G - 1, R + v1, _, by go_num, by go_num, by rw [World.drewN_drewN, World.drewN_drewN], HN⟩
     case measure => simp [intOf] <;> omega
    ·have q2 : decide ((1000000000 : Int) ≤ (G : Int)) = false := by simp; omega
     obtain ⟨p, hp⟩ : ∃ p, G * v2 = p := ⟨_, rfl⟩
     have hpb : p ≤ 999999999 * 999999999 := by rw [← hp]; exact Nat.mul_le_mul (by omega) (by omega)
     have HPI := hid (show ((G : Int) * (v2 : Int)) = (p : Int) from by rw [← Int.natCast_mul, hp])
     by_cases hT : R * 1000000000 + u2 < p
     ·have q3 : decide ((R : Int) * 1000000000 + u2 < (p : Int)) = true := by simp; omega
      have HN := hid (hI.out.less hE.out hR (by rw [hp]; exact hT))
      have hg0 := HN.out.2
      clear hp hT
      obtain ⟨x5, x6, x7⟩ : IntKind.i64.wrap ((G : Int) * (v2 : Int)) = (p : Int) ∧ IntKind.i64.wrap ((R : Int) * 1000000000) = (R : Int) * 1000000000 ∧ IntKind.i64.wrap ((R : Int) * 1000000000 + u2) = (R : Int) * 1000000000 + u2 := by
       refine ⟨by rw [HPI.out]; exact IntWalk.i64_in _ (by omega), IntWalk.i64_in _ (by omega), IntWalk.i64_in _ (by omega)⟩
      go_wp2_with fail
      go_big_quiet (fail)
      clear q1 q2 q3 x5 x6 x7
      go_wp2_with fail
      go_quiet (fail)
      go_wp2_with fail
      go_roundw
      case rel => exact ⟨G - 1, R + v1, _, by go_num, by go_num, by rw [World.drewN_drewN, World.drewN_drewN], HN.out.1⟩
      case measure => simp [intOf] <;> omega
     ·have q3 : decide ((R : Int) * 1000000000 + u2 < (p : Int)) = false := by simp; omega
      have HD := hid (hI.out.done hE.out (.inr ⟨by omega, by rw [hp]; omega⟩))
      have HQ := hid hI.out.q
      clear hp hT
      obtain ⟨x5, x6, x7⟩ : IntKind.i64.wrap ((G : Int) * (v2 : Int)) = (p : Int) ∧ IntKind.i64.wrap ((R : Int) * 1000000000) = (R : Int) * 1000000000 ∧ IntKind.i64.wrap ((R : Int) * 1000000000 + u2) = (R : Int) * 1000000000 + u2 := by
       refine ⟨by rw [HPI.out]; exact IntWalk.i64_in _ (by omega), IntWalk.i64_in _ (by omega), IntWalk.i64_in _ (by omega)⟩
      go_wp2_with fail
      go_big_quiet (fail)
      clear q1 q2 q3 x5 x6 x7
      go_wp2_with fail
      go_meet
      exact ⟨G, _, rfl, by rw [World.drewN_drewN], HD.out.1, HQ.out, HD.out.2⟩
   ·have q1 : decide ((R : Int) < 1000000000) = false := by simp; omega
    have HD := hid (hI.out.done hE.out (.inl (by omega)))
    have HQ := hid hI.out.q
    go_wp2_with fail
    go_big_quiet (fail)
    clear q1
    go_wp2_with fail
    go_meet
    exact ⟨G, _, rfl, by rw [World.drewN_drewN], HD.out.1, HQ.out, HD.out.2⟩
 case rest =>
  obtain ⟨G, q, rfl, rfl, hG, hQ⟩ := hcut
  have hE1 := hE
  clear a0 a1 a2 b1 b2 dz f1 f2 f3 f4 f5 f6 f7 f8 e1 e2 e3 e4 hE l0 l1 l2 l3 l4 l5
  go_wp2_with fail
  go_loopw [9, 10, 11, 12] (fun bb ii tt xx wr => ∃ (i c : Nat) (o : List Nat), bb = .int .i64 c ∧ ii = .int .i64 i ∧ i ≤ n ∧ Hid (MsubI us vs j n G i c o) ∧ Hid (Arr .i64 3 wr gu o) ∧ Hid (w.grownBy wr (some gu))) (fun _ ii _ _ _ => n - (intOf ii).toNat)
  case atStart => exact ⟨0, 0, us, rfl, rfl, Nat.zero_le _, MsubI.start HS.out.su, HU.out.drewN q, gb_drewN (World.grownBy.refl w _) q⟩
  case round =>
   obtain ⟨i, c, o, rfl, rfl, hin, hM, hO, hB⟩ := hrel
   have hol := hid hM.out.len
   have hcG := hM.out.c1
   by_cases hlt : i < n
   ·have d1 := hO.out.cell (getD_some (l := o) (i := j + i) (by rw [hol.out]; omega))
    have d4 := hO.out.free (j + i)
    have d2 := gb_cell hB.out (CV.out i hlt) hne
    have hvl := HS.out.sv.getD i
    have hul := HS.out.su.getD (j + i)
    rw [getD_drop_eq hM.out.hi] at d1
    obtain ⟨T, M, z, c', hT, hM1, hz, hc', z1, z2, z3, z4, z5, z6, z7, z8⟩ := ref_msub hul hcG hG hvl
    have HN := hid (hM.out.next (by omega) lu z1 z2 z3)
    obtain ⟨ui, hui⟩ : ∃ x, us.getD (j + i) 0 = x := ⟨_, rfl⟩
    obtain ⟨vi, hvi⟩ : ∃ x, vs.getD i 0 = x := ⟨_, rfl⟩
    rw [hui] at d1 hul hT; rw [hvi] at d2 hvl hT
    clear hui hvi z3
    obtain ⟨p, hp⟩ : ∃ p, G * vi = p := ⟨_, rfl⟩
    have hpb : p ≤ 999999999 * 999999999 := by rw [← hp]; exact Nat.mul_le_mul (by omega) (by omega)
    have HPI := hid (show ((G : Int) * (vi : Int)) = (p : Int) from by rw [← Int.natCast_mul, hp])
    rw [hp] at hT
    have HT := hid hT; have HM1 := hid hM1; have HZ := hid hz; have HC := hid hc'
    clear hp hT hM1 hz hc'
    have f1 : (0 : Int) ≤ (i : Int) := by omega
    have f2 : (i : Int) < (n : Int) := by omega
    have f3 : (i : Int) < (n : Int) + 1 := by omega
    obtain ⟨x5, x6, x7⟩ : IntKind.i64.wrap ((G : Int) * (vi : Int)) = (p : Int) ∧ IntKind.i64.wrap ((ui : Int) - c) = (ui : Int) - c ∧ IntKind.i64.wrap ((ui : Int) - c - p) = T := by
     refine ⟨by rw [HPI.out]; exact IntWalk.i64_in _ (by omega), IntWalk.i64_in _ (by omega), by rw [HT.out]; exact IntWalk.i64_in _ (by omega)⟩
    go_wp2_with fail
    go_quiet (fail)
    clear x5 x6 x7
    have y1 := HM1.out; have y2 := HZ.out; have y3 := HC.out
    go_wp2_with fail
    clear y1 y2 y3
    go_roundw
    case rel => exact ⟨i + 1, c', _, by rw [HC.out], by go_num, by omega, HN, (hO.out.drewN _).set (j + i) z, gb_set (gb_drewN hB.out _) _ _⟩
    case measure => simp [intOf] <;> omega
   ·obtain rfl : i = n := by omega
    have hg0 := getD_drop_eq hM.out.hi
    have d1 := hO.out.cell (getD_some (l := o) (i := j + i) (by rw [hol.out]; omega))
    have d4 := hO.out.free (j + i)
    rw [hg0, HU0.out] at d1
    have hV0 := hE1.out.pos
    have l0 := hE1.out.b0
    clear hg0
    by_cases hc : c ≤ u0
    ·obtain ⟨r1, r2, r3⟩ := hM.out.fits lu HS.out.lv HS.out.sv HVU.out.1 HVU.out.2 HU0.out hQ.out.1 hV0 hc
     have R1 := hid r1; have R3 := hid r3
     subst r2
     clear r1 r3 hc
     go_wp2_with fail
     refine wp_loop_rounds 1 ?_
     rw [rounds_succ]
     go_wp2_with fail
     go_ret
     refine ⟨ret_int (by rw [HVU.out.1, HVU.out.2, ← R1.out]), _, by rw [HVU.out.1, HVU.out.2]; exact R3.out, hO.out.set (j + i) 0, gb_set hB.out _ _⟩
    ·obtain ⟨hc1, hadd⟩ := hM.out.lacks lu HS.out.lv HS.out.sv HVU.out.1 HVU.out.2 HU0.out hQ.out.1 hQ.out.2 hV0 (by omega)
     have HADD := hid hadd
     have hsub : ((u0 : Int) - (c : Int)) = -1 := by omega
     have hcb : (c : Int) ≤ 1000000000 := by omega
     have HN := hid (hO.out.setN (j + i) (-1))
     have HG := hid (gb_set hB.out (j + i) (.int .i64 (-1)))
     clear hadd hc hc1
     go_wp2_with fail
     refine wp_loop_rounds 2 ?_
     rw [rounds_succ]
     clear hsub
     obtain ⟨wx, hwx⟩ : ∃ wx, wr.setCell ⟨gu, j + i, none⟩ (.int .i64 (-1)) = wx := ⟨_, rfl⟩
     rw [hwx] at HN HG ⊢
     clear hwx d1 d4
     have k1 := HN.out.self (m := j + i) (by rw [hol.out]; omega)
     go_wp2_with fail
     go_loopw [13, 14, 15] (fun cc ii tt wq => ∃ (y k : Nat) (p : List Nat), cc = .int .i64 k ∧ ii = .int .i64 y ∧ y ≤ i ∧ Hid (AddI o vs j y k p) ∧ Hid (ArrN .i64 3 wq gu p (j + i) (-1)) ∧ Hid (w.grownBy wq (some gu))) (fun _ ii _ _ => i - (intOf ii).toNat)
     case atStart => exact ⟨0, 0, o, rfl, rfl, Nat.zero_le _, AddI.start hM.out.sm, HN, HG⟩
     case round =>
      obtain ⟨y, k, p, rfl, rfl, hyi, hA, hP, hB2⟩ := hrel
      have hpl := hid (show p.length = us.length from by rw [hA.out.len, hol.out])
      by_cases hlt2 : y < i
      ·have d1 := hP.out.cell (i := j + y) (by omega) (getD_some (l := p) (i := j + y) (by rw [hpl.out]; omega))
       have d4 := hP.out.free (j + y)
       have d2 := gb_cell hB2.out (CV.out y hlt2) hne
       rw [getD_drop_eq hA.out.hi] at d1
       have HN2 := hid (hA.out.next hM.out.sm HS.out.sv (by rw [hol.out]; omega))
       have hvl := HS.out.sv.getD y
       have hul := hM.out.sm.getD (j + y)
       have hk1 := hA.out.k1
       obtain ⟨ui, hui⟩ : ∃ x, o.getD (j + y) 0 = x := ⟨_, rfl⟩
       obtain ⟨vi, hvi⟩ : ∃ x, vs.getD y 0 = x := ⟨_, rfl⟩
       rw [hui] at d1 hul; rw [hvi] at d2 hvl; rw [hui, hvi] at HN2
       clear hui hvi
       have f1 : (0 : Int) ≤ (y : Int) := by omega
       have f2 : (y : Int) < (i : Int) := by omega
       have f3 : (y : Int) < (i : Int) + 1 := by omega
       have hkI : (k : Int) ≤ 1 := by omega
       obtain ⟨x5, x6⟩ : IntKind.i64.wrap ((ui : Int) + vi) = (ui : Int) + vi ∧ IntKind.i64.wrap ((ui : Int) + vi + k) = (ui : Int) + vi + k := by
        refine ⟨IntWalk.i64_in _ (by omega), IntWalk.i64_in _ (by omega)⟩
       go_wp2_with fail
       go_quiet (fail)
       clear x5 x6
       go_wp2_with fail
       go_roundw
       case rel =>
        have hz : (((ui : Int) + vi + k) % 1000000000) = (((ui + vi + k) % 1000000000 : Nat) : Int) := by omega
        rw [hz]
        exact ⟨y + 1, _, _, by go_num, by go_num, by omega, HN2, (hP.out.drewN _).set (by omega) _, gb_set (gb_drewN hB2.out _) _ _⟩
       case measure => simp [intOf] <;> omega
      ·obtain rfl : y = i := by omega
       obtain ⟨r0, r1, r2, r3⟩ := HADD.out k p hA.out
       subst r0
       have R1 := hid r1; have R3 := hid r3
       have k1 := hP.out.self (m := j + y) (by rw [hpl.out]; omega)
       have k2 := hP.out.free (j + y)
       clear r1 r3
       go_wp2_with fail
       rw [rounds_succ]
       go_wp2_with fail
       go_ret
       refine ⟨ret_int (by rw [HVU.out.1, HVU.out.2, R1.out]; omega), _, by rw [HVU.out.1, HVU.out.2]; exact R3.out, hP.out.back 0, gb_set hB2.out _ _⟩
theorem divide_less (w : World) (v u : Value) (a b : Nat) (ha : IsN .i64 w v a) (hb : IsN .i64 w u b) (hlt : a < b) :
 Calls Tryz.prog 200 #[v, u] w fun e w' => RetNN .i64 (a / b) (a % b) e w' ∧ Below w.heap.size w w' := by
 have HA := hid ha; have HB := hid hb; have HL := hid (ordN_lt hlt); have HQ := hid (Nat.div_eq_of_lt hlt); have HR := hid (Nat.mod_eq_of_lt hlt)
 obtain ⟨a1, c1, rfl, _⟩ := ha.openI
 obtain ⟨a2, c2, rfl, _⟩ := hb.openI
 clear ha hb hlt
 go_enter Tryz.func200, Tryz.ntmps200
 go_wp2_with fail
 refine (r1_Order _ _ _ a b HA.out HB.out).mono ?_; rintro e w1 ⟨rfl, hb1⟩
 have B1 := hid hb1; clear hb1
 rw [HL.out]
 go_wp2_with fail
 go_ret2
 exact ⟨⟨_, _, rfl, by rw [HQ.out]; exact IsN.zero _ _, by rw [HR.out]; exact HA.out.call B1.out⟩, B1.out⟩
theorem divide_one (w : World) (v u : Value) (a b : Nat) (ha : IsN .i64 w v a) (hb : IsN .i64 w u b) (hle : b ≤ a) (h0 : 0 < b) (h1 : b < 1000000000) (hla : (limbs a).length ≤ 1000000) :
 Calls Tryz.prog 200 #[v, u] w fun e w' => RetNN .i64 (a / b) (a % b) e w' ∧ Below w.heap.size w w' := by
 have HA := hid ha; have HB := hid hb
 have hord : ordN a b = 0 ∨ ordN a b = 1 := by
  unfold ordN; split
  ·omega
  ·split <;> simp
 obtain ⟨a1, c1, rfl, h1', _⟩ := ha.openI
 obtain ⟨a2, c2, rfl, h2', h3', h4'⟩ := hb.openI
 have hl1 : limbs b = [b] := limbs_small h0 h1
 obtain ⟨g, o, rfl, hg, hc⟩ := h4' 0 b (by rw [hl1]; rfl)
 rw [Nat.add_zero] at hc
 have HC := hid hc
 have hlen : (limbs b).length = 1 := by rw [hl1]; rfl
 rw [hlen] at HB h2' ⊢
 clear ha hb hc h4' hl1 hlen
 go_enter Tryz.func200, Tryz.ntmps200
 go_wp2_with fail
 refine (r1_Order _ _ _ a b HA.out HB.out).mono ?_; rintro e w1 ⟨rfl, hb1⟩
 have d1 := (hb1.cell (p := ⟨g, o, none⟩) hg).trans HC.out
 have B1 := hid hb1; clear hb1
 obtain ⟨t, ht⟩ : ∃ t, ordN a b = t := ⟨_, rfl⟩
 rw [ht] at hord ⊢
 have q0 : decide (t < 0) = false := by simp; omega
 clear ht hord
 go_wp2_with fail
 refine (r1_short _ _ a b (HA.out.call B1.out) h0 h1 hla).mono ?_; rintro e w2 ⟨⟨v2, rfl, hv2⟩, hb2⟩
 have B2 := hid hb2; have V2 := hid hv2; clear hb2 hv2
 have hrb : a % b < 1000000000 := Nat.lt_trans (Nat.mod_lt a h0) h1
 go_wp2_with fail
 refine (r1_trim _ _ [a % b] (Sm.cons hrb Sm.nil) ?_).mono ?_
 ·exact Row.of_blk (b := w2.heap.size) (n := 1) (c := 1) (cs := #[.int .i64 ((a % b : Nat) : Int)]) (Blk.new w2 _ _) rfl (by unfold maxLen; omega) (fun i x hx => by simpa [ints] using hx) (Nat.le_refl _) (by unfold maxLen; omega)
 ·rintro e w3 ⟨⟨v3, rfl, hv3⟩, rfl⟩
  have V3 := hid hv3; clear hv3
  go_wp2_with fail
  go_ret2
  have hb3 : Below w2.heap.size w2 (w2.alloc (.cells #[.int .i64 ((a % b : Nat) : Int)] 3)) := (Below.refl _ _).alloc (Nat.le_refl _) _
  refine ⟨⟨_, _, rfl, V2.out.call hb3, ?_⟩, bnext (bnext B1.out B2.out) hb3⟩
  have := V3.out
  rwa [show val [a % b] = a % b by simp [val_cons]] at this
theorem divide_many (w : World) (v u : Value) (a b m : Nat) (ha : IsN .i64 w v a) (hb : IsN .i64 w u b) (hle : b ≤ a) (hn : (limbs b).length = m) (hm2 : 2 ≤ m) (hla : (limbs a).length ≤ 1000000) :
 Calls Tryz.prog 200 #[v, u] w fun e w' => RetNN .i64 (a / b) (a % b) e w' ∧ Below w.heap.size w w' := by
 have HA := hid ha; have HB := hid hb
 have hord : ordN a b = 0 ∨ ordN a b = 1 := by
  unfold ordN; split
  ·omega
  ·split <;> simp
 have hmn := limbs_length_mono hle
 obtain ⟨a1, c1, rfl, h1', _⟩ := ha.openI
 obtain ⟨a2, c2, rfl, h2', h3', h4'⟩ := hb.openI
 obtain ⟨x, hx⟩ : ∃ x, (limbs b)[m - 1]? = some x := ⟨_, List.getElem?_eq_getElem (by omega)⟩
 obtain ⟨g, o, rfl, hg, hc⟩ := h4' (m - 1) x hx
 have HC := hid hc
 have hn1 : (limbs b).length = (m - 1) + 1 := by omega
 obtain ⟨s1, s2, s3⟩ := scale_len hn1 hx
 obtain ⟨t1, t2, _⟩ := top_limb hn1 hx
 obtain ⟨d, hd⟩ : ∃ d, 1000000000 / (x + 1) = d := ⟨_, rfl⟩
 rw [hd] at s1 s2 s3
 have HS := hid (show (limbs (b * d)).length = m by omega)
 have hdI := hid (show ((1000000000 : Int) / ((x : Int) + 1)) = (d : Int) from by rw [← hd]; rfl)
 rw [hn] at h2' hmn ⊢
 obtain ⟨L, hL⟩ : ∃ L, (limbs a).length = L := ⟨_, rfl⟩
 rw [hL] at hmn h1' ⊢
 have hla' : L ≤ 1000000 := by omega
 have HL := hid hL; have HN := hid hn; have HLA := hid hla; have HLE := hid hle
 rw [hL] at HA; rw [hn] at HB
 obtain ⟨K, hK⟩ : ∃ K, K = L + 1 - m := ⟨_, rfl⟩
 have hKI := hid (show ((L : Int) + 1 - (m : Int)) = (K : Int) by omega)
 have hKL : K + m = L + 1 := by omega
 have hmk := hid (fun W => make_limbs K (by omega) W)
 clear ha hb hc h4' hx hd s1 hL hn hla hle hn1 hK
 go_enter Tryz.func200, Tryz.ntmps200
 go_wp2_with fail
 refine (r1_Order _ _ _ a b HA.out HB.out).mono ?_; rintro e w1 ⟨rfl, hb1⟩
 have d1 := (hb1.cell (p := ⟨g, o + (m - 1), none⟩) hg).trans HC.out
 have B1 := hid hb1; clear hb1
 obtain ⟨t, ht⟩ : ∃ t, ordN a b = t := ⟨_, rfl⟩
 rw [ht] at hord ⊢
 have q0 : decide (t < 0) = false := by simp; omega
 clear ht hord
 go_wp2_with fail
 rw [hdI.out]
 refine (r1_scaled _ _ a d (HA.out.call B1.out) s3 HLA.out).mono ?_; rintro e w2 ⟨⟨gu, ou, rfl, hgu, hAu, lu, su, vu⟩, hb2⟩
 have B2 := hid (bnext B1.out hb2); have AU := hid hAu; have LU := hid lu; have SU := hid su; have VU := hid vu
 have hul := hAu.lt
 rw [HL.out] at LU ⊢
 clear hAu lu su vu d1
 go_wp2_with fail
 refine (r1_scaled _ _ b d (HB.out.call B2.out) s3 (by rw [HN.out]; omega)).mono ?_; rintro e w3 ⟨⟨gv, ov, rfl, hgv, hAv, lv, sv, vv⟩, hb3⟩
 have B3 := hid (bnext B2.out hb3); have AU3 := hid (AU.out.call hb3)
 have hne : gv ≠ gu := by omega
 have LV := hid lv; have VV := hid vv; have SV := hid sv
 clear lv vv sv
 go_wp2_with fail
 rw [← LV.out]
 refine (r1_trim_at _ _ _ ov SV.out (by have := hAv.row (n := ov.length) (c := ov.length) (Nat.le_refl _) (Nat.le_refl _) (by rw [LV.out, HN.out]; unfold maxLen; omega); rwa [List.take_of_length_le (Nat.le_refl _)] at this)).mono ?_
 rintro e w4 ⟨⟨m', rfl, hm'⟩, rfl⟩
 rw [VV.out] at hm'
 have hmm : m' = m := by have := hm'.len.1; rw [ints_length, HS.out] at this; exact this
 subst hmm
 have RV := hid hm'
 have hvl := hAv.lt
 clear hAv hm' AU
 have y1 := hKI.out; have y2 := hmk.out
 go_wp2_with fail
 clear y1 y2
 have hV := hid (val_limbs (b * d))
 have D0 := hid (show DivI (a * d) (b * d) m' (L + 1) K ou (List.replicate K 0) from by
  have h1 : 1000000000 ^ (m' - 1) ≤ b := limbs_lt_length.1 (by rw [HN.out]; omega)
  have h2 : b * d ≤ 1000000000 ^ m' := Nat.le_of_lt (limbs_length_le.1 (by rw [HS.out]; exact Nat.le_refl _))
  have h3 : a < 1000000000 ^ L := limbs_length_le.1 (by rw [HL.out]; exact Nat.le_refl _)
  have := DivI.start (U := a * d) (V := b * d) (n := m') h2 SU.out LU.out (by omega) VU.out (scaled_top LU.out VU.out h3 (by omega) (by omega) h1 s2)
  rwa [show L + 1 - m' = K by omega] at this)
 go_loopw [13] (fun jj wr => ∃ (k : Nat) (t : Int) (o Q : List Nat), jj = .int .i64 t ∧ t = (k : Int) - 1 ∧ k ≤ K ∧ Hid (DivI (a * d) (b * d) m' (L + 1) k o Q) ∧ Hid (Arr .i64 3 wr gu o) ∧ Hid (Arr .i64 3 wr w3.heap.size Q) ∧ Hid (Row wr (.slice (some ⟨gv, 0, none⟩) m' ov.length) (ints .i64 (limbs (b * d)))) ∧ Hid (Below w.heap.size w wr)) (fun jj _ => (intOf jj + 1).toNat)
 case atStart =>
  have ha : Below w3.heap.size w3 (w3.alloc (.cells (madeCells #[.int .i64 0] K) 3)) := (Below.refl _ _).alloc (Nat.le_refl _) _
  exact ⟨K, _, ou, _, rfl, rfl, Nat.le_refl _, D0, AU3.out.call ha, Arr.made w3 .i64 3 K, RV.out.call ha, bnext B3.out ha⟩
 case round =>
  obtain ⟨k, t, o2, Q, rfl, ht, hk, hD, hU, hQ, hR, hB⟩ := hrel
  have hol := hid hD.out.lo
  have hql := hid (show Q.length = K from by rw [hD.out.lq]; omega)
  cases k with
  | zero =>
   obtain rfl : t = -1 := by omega
   clear ht
   obtain ⟨r1, r2, r3⟩ := hD.out.done (by omega)
   have hfin := hid (div_end (a := a) (b := b) s2 r1 r2)
   have R3 := hid r3
   have hlen : (limbs (val (o2.take m'))).length ≤ 1000000 := by
    rw [r3]
    have := limbs_length_mono (Nat.le_of_lt r2)
    rw [HS.out] at this
    omega
   clear r1 r2 r3
   go_wp2_with fail
   refine (r1_trim _ _ (o2.take m') (hD.out.so.take _) (hU.out.row (by rw [hol.out]; omega) (by omega) (by unfold maxLen; omega))).mono ?_
   rintro e w5 ⟨⟨v5, rfl, hv5⟩, rfl⟩
   go_wp2_with fail
   refine (r1_short _ v5 _ d hv5 s2 s3 hlen).mono ?_
   rintro e w6 ⟨⟨v6, rfl, hv6⟩, hb6⟩
   have V6 := hid hv6; have B6 := hid hb6; have Q6 := hid (hQ.out.call hb6)
   clear hv5 hv6 hb6
   go_wp2_with fail
   refine (r1_trim _ _ Q hD.out.sq (by have := Q6.out.row (n := K) (c := K) (by rw [hql.out]; exact Nat.le_refl _) (Nat.le_refl _) (by unfold maxLen; omega); rwa [List.take_of_length_le (by rw [hql.out]; exact Nat.le_refl _)] at this)).mono ?_
   rintro e w7 ⟨⟨v7, rfl, hv7⟩, rfl⟩
   go_wp2_with fail
   go_ret2
   refine ⟨⟨v7, v6, rfl, by rw [← hfin.out.1]; exact hv7, ?_⟩, bnext hB.out B6.out⟩
   have := V6.out
   rwa [R3.out, hfin.out.2] at this
  | succ j =>
   obtain rfl : t = (j : Int) := by omega
   clear ht
   have hS := hid (show StepIn o2 (limbs (b * d)) j m' from ⟨hm2, by omega, HS.out, by rw [hol.out]; omega, by rw [hol.out]; omega, hD.out.so, sm_limbs _, limbs_top (n := m' - 1) (by rw [HS.out]; omega), by rw [hV.out]; exact hD.out.win (by omega)⟩)
   obtain ⟨z, hz⟩ : ∃ z, Q[j]? = some z := ⟨_, List.getElem?_eq_getElem (by rw [hql.out]; omega)⟩
   have hgq : w3.heap.size ≠ gu := by omega
   have hgw : w.heap.size ≤ gu := Nat.le_trans B1.out.size hgu
   have hqw : w.heap.size ≤ w3.heap.size := B3.out.size
   go_wp2_with fail
   rw [show j + m' + 1 - j = m' + 1 by omega]
   refine (r1_step _ gu j _ o2 gv 0 _ (limbs (b * d)) m' hS.out hU.out hR.out hne).mono ?_
   rintro e w5 ⟨he, o5, hw5, hA5, hg5⟩
   rw [hV.out] at he hw5
   have HN5 := hid (hD.out.next (by omega) hw5)
   obtain ⟨qv, hqv⟩ : ∃ q, val ((o2.drop j).take (m' + 1)) / (b * d) = q := ⟨_, rfl⟩
   rw [hqv] at he HN5
   subst he
   have Q5 := hid (hQ.out.gb hg5 hgq)
   have R5 := hid (hR.out.gb hg5 hne)
   have B5 := hid (below_gb hB.out hB.out.size hg5 hgw)
   have A5 := hid hA5
   have d3 := Q5.out.cell hz
   have d4 := Q5.out.free j
   clear hw5 hA5 hg5 hqv hz
   go_wp2_with fail
   go_roundw
   case rel =>
    have hs : Below w5.heap.size w5 w5 := Below.refl _ _
    have hset : w5.grownBy (w5.setCell ⟨w3.heap.size, j, none⟩ (.int .i64 (qv : Int))) (some w3.heap.size) := gb_set (World.grownBy.refl _ _) _ _
    exact ⟨j, _, o5, _, rfl, rfl, by omega, HN5, A5.out.gb hset (fun e => hgq e.symm), Q5.out.set j qv, R5.out.gb hset (by omega), below_set B5.out hqw _⟩
   case measure => simp [intOf] <;> omega
theorem r1_Divide (w : World) (v u : Value) (a b : Nat) (ha : IsN .i64 w v a) (hb : IsN .i64 w u b) (h0 : 0 < b) (hla : (limbs a).length ≤ 1000000) :
 Calls Tryz.prog 200 #[v, u] w fun e w' => RetNN .i64 (a / b) (a % b) e w' ∧ Below w.heap.size w w' := by
 by_cases hlt : a < b
 ·exact divide_less w v u a b ha hb hlt
 ·by_cases h1 : b < 1000000000
  ·exact divide_one w v u a b ha hb (by omega) h0 h1 hla
  ·refine divide_many w v u a b _ ha hb (by omega) rfl ?_ hla
   have : 1 < (limbs b).length := limbs_lt_length.2 (by omega)
   omega
theorem r1_Common (w : World) (v u : Value) (a b : Nat) (ha : IsN .i64 w v a) (hb : IsN .i64 w u b) (hla : (limbs a).length ≤ 1000000) (hlb : (limbs b).length ≤ 1000000) :
 Calls Tryz.prog 199 #[v, u] w fun e w' => RetN .i64 (Nat.gcd a b) e w' ∧ Below w.heap.size w w' := by
 have HA := hid ha; have HB := hid hb; have LA := hid hla; have LB := hid hlb
 clear ha hb hla hlb
 go_enter Tryz.func199, Tryz.ntmps199
 go_wp2_with fail
 go_loopw [0, 1, 5, 6] (fun x y q r wr => ∃ m n : Nat, Hid (IsN .i64 wr x m) ∧ Hid (IsN .i64 wr y n) ∧ Hid ((limbs m).length ≤ 1000000) ∧ Hid ((limbs n).length ≤ 1000000) ∧ Hid (Nat.gcd m n = Nat.gcd a b) ∧ Hid (Below w.heap.size w wr))
  (fun x y q r wr => numOf .i64 wr y)
 case atStart => exact ⟨a, b, HA, HB, LA, LB, rfl, Below.refl _ _⟩
 case round =>
  obtain ⟨m, n, hx, hy, hm, hn, hg, hB⟩ := hrel
  have hnum := hid (numOf_eq hy.out)
  obtain ⟨a1, c1, rfl, h1, h1', h1''⟩ := hx.out.openI
  obtain ⟨a2, c2, rfl, h2, h2', h2''⟩ := hy.out.openI
  clear h1'' h2''
  by_cases h0 : n = 0
  ·subst h0
   have hl : (limbs 0).length = 0 := by rw [limbs_zero]; rfl
   rw [hl] at *
   clear hl
   go_wp2_with fail
   go_ret
   exact ⟨⟨_, rfl, by rw [← hg.out, Nat.gcd_zero_right]; exact hx.out⟩, hB.out⟩
  ·have hpos : 0 < (limbs n).length := List.length_pos_iff.2 (fun e => h0 (limbs_nil.1 e))
   have q0 : decide ((0 : Int) < ((limbs n).length : Int)) = true := by simp; omega
   go_wp2_with fail
   refine (r1_Divide _ _ _ m n hx.out hy.out (by omega) hm.out).mono ?_
   rintro e w1 ⟨⟨v1, v2, rfl, hv1, hv2⟩, hb1⟩
   have V2 := hid hv2; have B1 := hid (bnext hB.out hb1); have Y1 := hid (hy.out.call hb1)
   have hlt := hid (Nat.mod_lt m (y := n) (by omega))
   have hll := hid (show (limbs (m % n)).length ≤ 1000000 from Nat.le_trans (limbs_length_mono (Nat.le_of_lt hlt.out)) hn.out)
   have hgg := hid (show Nat.gcd n (m % n) = Nat.gcd a b from by rw [← hg.out, Nat.gcd_comm m n, Nat.gcd_rec n m, Nat.gcd_comm]) 
   clear hv1 hv2 hb1
   go_wp2_with fail
   go_roundw
   case rel => exact ⟨n, m % n, Y1, V2, hn, hll, hgg, B1⟩
   case measure => rw [numOf_eq V2.out, hnum.out]; exact hlt.out
open Go.Lib (decDigits nDigits)
theorem r2_one (w : World) : Calls Tryz.prog 113 #[] w fun e w' => RetN .i64 1 e w' ∧ Below w.heap.size w w' := by
 have H1 := hid (isN_one w)
 go_enter Tryz.func113, Tryz.ntmps113
 go_wp2_with fail
 go_ret
 exact ⟨⟨_, rfl, H1.out⟩, (Below.refl _ _).alloc (Nat.le_refl _) _⟩
theorem r2_Reduce (w : World) (m : Bool) (v u : Value) (n d : Nat) (hn : IsN .i64 w v n) (hd : IsN .i64 w u d) (h0 : 0 < d) (hln : (limbs n).length ≤ 1000000) (hld : (limbs d).length ≤ 1000000) :
 Calls Tryz.prog 131 #[.bool m, v, u] w fun e w' => RetQ .i64 (qmk m n d) e w' ∧ Below w.heap.size w w' := by
 have HN := hid hn; have HD := hid hd
 obtain ⟨a1, c1, rfl, _⟩ := hn.openI
 obtain ⟨a2, c2, rfl, _⟩ := hd.openI
 clear hn hd
 rcases Nat.eq_zero_or_pos n with rfl | hp
 ·have hl : (limbs 0).length = 0 := by rw [limbs_zero]; rfl
  rw [hl] at HN ⊢
  have hq := hid (qmk_zero m d)
  rw [hq.out]
  clear hl
  go_enter Tryz.func131, Tryz.ntmps131
  go_wp2_with fail
  refine (r2_one _).mono ?_; rintro e w1 ⟨⟨v1, rfl, hv1⟩, hb1⟩
  obtain ⟨a3, c3, rfl, _⟩ := hv1.openI
  have HV := hid hv1
  have HB := hid (show Blk w1 w.heap.size #[.bool false, .slice none 0 0, .slice none 0 0] 100 from (Blk.new w _ _).call hb1)
  have d0 := HB.out.cell 0
  have d1 := HB.out.cell 1
  have d2 := HB.out.cell 2
  have e0 := HB.out.free 0
  have e1 := HB.out.free 1
  have e2 := HB.out.free 2
  have HBB := hid hb1
  clear hb1 hv1
  simp at d0 d1 d2
  go_wp2_with fail
  obtain ⟨s1, s2⟩ := set3 HB.out false none a3 0 0 (limbs 1).length c3
  have f0 := s2.cell 0
  have f1 := s2.cell 1
  have f2 := s2.cell 2
  simp at f0 f1 f2
  refine bodyPost_ret (v := .agg #[.bool false, .slice none 0 0, .slice a3 (limbs 1).length c3]) (by simp [results, Tryz.results131, go_sem, f0, f1, f2]) rfl ⟨⟨_, rfl, IsQ.zero_ (s1 _ _ _ (IsN.zero _ _)) (s1 _ _ _ HV.out)⟩, ?_⟩
  exact (((((Below.refl _ _).alloc (Nat.le_refl _) _).trans (HBB.out.mono (by simp))).setCell (Nat.le_refl _) _).setCell (Nat.le_refl _) _).setCell (Nat.le_refl _) _
 ·have hpos : 0 < (limbs n).length := List.length_pos_iff.2 (fun e => by have := limbs_nil.1 e; omega)
  have q0 : (((limbs n).length : Int) == 0) = false := beq_eq_false_iff_ne.2 (by omega)
  obtain ⟨g, hg⟩ : ∃ g, Nat.gcd n d = g := ⟨_, rfl⟩
  have hgp : 0 < g := hg ▸ Nat.gcd_pos_of_pos_left d hp
  have HG := hid hg; have HGP := hid hgp; have HP := hid hp; have H0 := hid h0; have HLN := hid hln; have HLD := hid hld
  clear hg hgp hp h0 hln hld hpos
  go_enter Tryz.func131, Tryz.ntmps131
  go_wp2_with fail
  refine (r1_Common _ _ _ n d (HN.out.call ((Below.refl _ _).alloc (Nat.le_refl _) _)) (HD.out.call ((Below.refl _ _).alloc (Nat.le_refl _) _)) HLN.out HLD.out).mono ?_
  rintro e w1 ⟨⟨v1, rfl, hv1⟩, hb1⟩
  rw [HG.out] at hv1
  have HB1 := hid (show Blk w1 w.heap.size #[.bool false, .slice none 0 0, .slice none 0 0] 100 from (Blk.new w _ _).call hb1)
  have B1 := hid (((Below.refl w.heap.size w).alloc (Nat.le_refl _) (.cells #[.bool false, .slice none 0 0, .slice none 0 0] 100)).trans (hb1.mono (by simp)))
  have N1 := hid (HN.out.call B1.out); have D1 := hid (HD.out.call B1.out); have G1 := hid hv1
  clear hb1 hv1
  go_wp2_with fail
  refine (r1_Divide _ _ _ n g N1.out G1.out HGP.out HLN.out).mono ?_
  rintro e w2 ⟨⟨v2, v3, rfl, hv2, -⟩, hb2⟩
  have HB2 := hid (HB1.out.call hb2); have B2 := hid (bnext B1.out hb2); have D2 := hid (D1.out.call hb2); have G2 := hid (G1.out.call hb2); have V2 := hid hv2
  clear hb2 hv2
  go_wp2_with fail
  refine (r1_Divide _ _ _ d g D2.out G2.out HGP.out HLD.out).mono ?_
  rintro e w3 ⟨⟨v4, v5, rfl, hv4, -⟩, hb3⟩
  have HB3 := hid (HB2.out.call hb3); have B3 := hid (bnext B2.out hb3); have W2 := hid (V2.out.call hb3); have W4 := hid hv4
  clear hb3 hv4
  obtain ⟨a3, c3, rfl, _⟩ := W2.out.openI
  obtain ⟨a4, c4, rfl, _⟩ := W4.out.openI
  have d0 := HB3.out.cell 0
  have d1 := HB3.out.cell 1
  have d2 := HB3.out.cell 2
  have e0 := HB3.out.free 0
  have e1 := HB3.out.free 1
  have e2 := HB3.out.free 2
  simp at d0 d1 d2
  go_wp2_with fail
  obtain ⟨s1, s2⟩ := set3 HB3.out m a3 a4 (limbs (n / g)).length c3 (limbs (d / g)).length c4
  have f0 := s2.cell 0
  have f1 := s2.cell 1
  have f2 := s2.cell 2
  simp at f0 f1 f2
  refine bodyPost_ret (v := .agg #[.bool m, .slice a3 (limbs (n / g)).length c3, .slice a4 (limbs (d / g)).length c4]) (by simp [results, Tryz.results131, go_sem, f0, f1, f2]) rfl ⟨⟨_, rfl, IsQ.mk' HP.out H0.out (HG.out ▸ s1 _ _ _ W2.out) (HG.out ▸ s1 _ _ _ W4.out)⟩, ?_⟩
  exact ((B3.out.setCell (Nat.le_refl _) _).setCell (Nat.le_refl _) _).setCell (Nat.le_refl _) _
end Go.Proofs.YtlmnpocifldpmaaGreatDoor
namespace Go.Proofs.YtlmnpocifldpmaaGreatDoor
theorem sgn_mulN (m : Bool) (n d : Nat) : sgn m (n * d) = sgn m n * (d : Int) := by cases m <;> simp [sgn, Int.neg_mul]
theorem q_add (p q : Rat) : p + q = mkRat (sgn (decide (p.num < 0)) (p.num.natAbs * q.den) + sgn (decide (q.num < 0)) (q.num.natAbs * p.den)) (p.den * q.den) := by
 rw [sgn_mulN, sgn_mulN, sgn_of, sgn_of, Rat.add_def', Int.mul_comm q.num]
 try rw [Int.mul_comm q.num]
theorem sgn_same (m : Bool) (x y : Nat) : sgn m x + sgn m y = sgn m (x + y) := by cases m <;> simp [sgn] <;> omega
theorem sgn_less {m1 m2 : Bool} (h : m1 ≠ m2) {x y : Nat} (hl : x < y) : sgn m1 x + sgn m2 y = sgn m2 (y - x) := by
 cases m1 <;> cases m2 <;> simp [sgn] at * <;> omega
theorem sgn_more {m1 m2 : Bool} (h : m1 ≠ m2) {x y : Nat} (hl : y ≤ x) : sgn m1 x + sgn m2 y = sgn m1 (x - y) := by
 cases m1 <;> cases m2 <;> simp [sgn] at * <;> omega
open Go.RowKit
open Go.Lib (decDigits nDigits)
theorem sgn_abs_le (m1 m2 : Bool) (x y : Nat) : (sgn m1 x + sgn m2 y).natAbs ≤ x + y := by
 cases m1 <;> cases m2 <;> simp [sgn] <;> omega
structure Dig (K : Nat) (q : Rat) : Prop where
 n : q.num.natAbs < 10 ^ K
 d : q.den < 10 ^ K
theorem Dig.fits {K : Nat} {q : Rat} (h : Dig K q) (h0 : 0 < K) (hk : K ≤ 4000) : ¬ ovQ q := by
 unfold ovQ
 have h1 := nDigits_le h0 h.n
 have h2 := nDigits_le h0 h.d
 omega
theorem dig_mk {K : Nat} {z : Int} {d : Nat} (hd : 0 < d) (h1 : z.natAbs < 10 ^ K) (h2 : d < 10 ^ K) : Dig K (mkRat z d) := by
 refine ⟨?_, ?_⟩
 ·rw [Rat.num_mkRat, if_neg (by omega)]
  exact Nat.lt_of_le_of_lt (Int.natAbs_ediv_le_natAbs _ _) h1
 ·rw [Rat.den_mkRat, if_neg (by omega)]
  exact Nat.lt_of_le_of_lt (Nat.div_le_self _ _) h2
def t1 : ByteArray := ⟨#[49]⟩
theorem outB_fits {q : Rat} (h : ¬ ovQ q) : outB q = txQ q := if_neg h
theorem outE_fits {q : Rat} (h : ¬ ovQ q) : outE q = 0 := if_neg h
theorem num_limbs {n : Nat} (h : nDigits n ≤ 4000) : (limbs n).length ≤ 1000000 := by
 exact Nat.le_trans (limbs_of_digits h) (by omega)
theorem qmk_le {a b : Nat} (h0 : b ≠ 0) : (qmk false a b).num.natAbs ≤ a ∧ (qmk false a b).den ≤ b := by
 unfold qmk
 constructor
 ·rw [Rat.num_mkRat, if_neg h0]
  refine Nat.le_trans (Int.natAbs_ediv_le_natAbs _ _) ?_
  rw [sgn_natAbs]; exact Nat.le_refl _
 ·rw [Rat.den_mkRat, if_neg h0]
  exact Nat.div_le_self _ _
theorem r2_Make_num (w : World) (a b : Nat) (ha : nDigits a ≤ 4000) (hb : nDigits b ≤ 4000) (h0 : b ≠ 0) :
 Calls Tryz.prog 106 #[.string (numB a), .string (numB b)] w fun e w' => e = .returned (.tuple #[.string (outB (qmk false a b)), .int .i64 (outE (qmk false a b))]) ∧ Below w.heap.size w w' := by
 have sa := numB_size a
 have sb := numB_size b
 have e1 : iM (numB a) = false := by
  unfold iM Lib.hasPrefix
  rw [numB_list]
  exact minus_dec a
 have e2 : iD (numB a) = numB a := iD_plain e1
 have e3 : iB (numB a) = true := by
  unfold iB
  rw [e1, e2, fB_num]; rfl
 have HI := fun V => hid (r2_integer V (numB a) (by omega))
 rw [e1, e2, e3] at HI
 have HC := fun V => hid (r1_Check V (numB b) (by omega))
 rw [errN_numB hb] at HC
 have HA := fun V => hid (r1_Read_num V a (by omega))
 have HB := fun V => hid (r1_Read_num V b (by omega))
 have la := num_limbs ha
 have lb := num_limbs hb
 have HR := fun V v u hn hd => hid (r2_Reduce V false v u a b hn hd (by omega) la lb)
 have dq : (limbs (qmk false a b).num.natAbs).length ≤ 1000000 ∧ (limbs (qmk false a b).den).length ≤ 1000000 := by
  obtain ⟨k1, k2⟩ := qmk_le (a := a) h0
  have := nDigits_mono k1
  have := nDigits_mono k2
  exact ⟨num_limbs (by omega), num_limbs (by omega)⟩
 have HW := fun V v h => hid (r2_Write V v (qmk false a b) h dq.1 dq.2)
 have hne := ne_lit (show ¬ numB b = ⟨[48].toArray⟩ from by rw [← numB_zero]; exact numB_ne h0)
 have q0 : decide ((4000 : Int) < ((numB a).size : Int)) = false := by simp; omega
 obtain ⟨oB, hB⟩ : ∃ x, outB (qmk false a b) = x := ⟨_, rfl⟩
 obtain ⟨oE, hE⟩ : ∃ x, outE (qmk false a b) = x := ⟨_, rfl⟩
 rw [hB, hE] at HW
 rw [hB, hE]
 generalize numB a = A at *
 generalize numB b = B at *
 clear e1 e2 e3 hB hE la lb dq sa sb ha hb h0
 go_enter Tryz.func106, Tryz.ntmps106
 go_wp2_with fail
 refine (HI _).out.mono ?_; rintro e w1 ⟨rfl, rfl⟩
 go_wp2_with fail
 refine (HC _).out.mono ?_; rintro e w2 ⟨rfl, rfl⟩
 go_wp2_with fail
 refine (HA _).out.mono ?_; rintro e w3 ⟨⟨v3, rfl, hv3⟩, hb3⟩
 have y3 := hid hb3; have N3 := hid hv3; clear hb3 hv3
 go_wp2_with fail
 refine (HB _).out.mono ?_; rintro e w4 ⟨⟨v4, rfl, hv4⟩, hb4⟩
 have y4 := hid (bnext y3.out hb4); have N4 := hid hv4; have M4 := hid (N3.out.call hb4); clear hb4 hv4
 go_wp2_with fail
 refine (HR _ _ _ M4.out N4.out).out.mono ?_; rintro e w5 ⟨⟨v5, rfl, hv5⟩, hb5⟩
 have y5 := hid (bnext y4.out hb5); have N5 := hid hv5; clear hb5
 obtain ⟨N, D, rfl, -, -⟩ := hv5.ex
 clear hv5
 go_wp2_with fail
 refine (HW _ _ N5.out).out.mono ?_; rintro e w6 ⟨rfl, hb6⟩
 have y6 := hid (bnext y5.out hb6); clear hb6
 go_wp2_with fail
 go_ret2
 exact ⟨rfl, y6.out⟩
end Go.Proofs.YtlmnpocifldpmaaGreatDoor
namespace Go.Proofs.YtlmnpocifldpmaaGreatDoor
open Go.RowKit
def allW : Nat → List (List UInt8)
 | 0 => [[]]
 | n + 1 => (allW n).flatMap fun l => [l ++ [48], l ++ [49]]
theorem allW_len : ∀ {n : Nat} {l : List UInt8}, l ∈ allW n → l.length = n
 | 0, l, h => by simp [allW] at h; subst h; rfl
 | n + 1, l, h => by
  simp only [allW, List.mem_flatMap] at h
  obtain ⟨m, hm, hl⟩ := h
  have := allW_len hm
  simp at hl
  rcases hl with rfl | rfl <;> simp [this]
theorem allW_bits : ∀ {n : Nat} {l : List UInt8}, l ∈ allW n → ∀ b ∈ l, b = 48 ∨ b = 49
 | 0, l, h => by simp [allW] at h; subst h; simp
 | n + 1, l, h => by
  simp only [allW, List.mem_flatMap] at h
  obtain ⟨m, hm, hl⟩ := h
  have := allW_bits hm
  simp at hl
  rcases hl with rfl | rfl <;> (intro b hb; rcases List.mem_append.1 hb with hb | hb; exact this b hb; simp at hb; simp [hb])
theorem allW_length : ∀ n, (allW n).length = 2 ^ n
 | 0 => rfl
 | n + 1 => by
  have h : ∀ L : List (List UInt8), (L.flatMap fun l => [l ++ [48], l ++ [49]]).length = 2 * L.length := fun L => by
   induction L with
   | nil => rfl
   | cons a r ih => rw [List.flatMap_cons, List.length_append, ih, List.length_cons]; simp; omega
  rw [allW, h, allW_length n, Nat.pow_succ]; omega
def sumN (c : Nat → Nat) : Nat → Nat
 | 0 => 0
 | i + 1 => sumN c i + c i
theorem sumN_congr {c d : Nat → Nat} : ∀ {N : Nat}, (∀ i, i < N → c i = d i) → sumN c N = sumN d N
 | 0, _ => rfl
 | N + 1, h => by rw [sumN, sumN, sumN_congr (fun i hi => h i (by omega)), h N (by omega)]
theorem sumN_add (c d : Nat → Nat) : ∀ N, sumN (fun i => c i + d i) N = sumN c N + sumN d N
 | 0 => rfl
 | N + 1 => by rw [sumN, sumN, sumN, sumN_add c d N]; omega
theorem sumN_zero : ∀ N, sumN (fun _ => 0) N = 0
 | 0 => rfl
 | N + 1 => by rw [sumN, sumN_zero N]
theorem sumN_one (j : Nat) : ∀ N, sumN (fun i => if j = i then 1 else 0) N = if j < N then 1 else 0
 | 0 => by simp [sumN]
 | N + 1 => by
  rw [sumN, sumN_one j N]
  by_cases h1 : j < N
  ·rw [if_pos h1, if_neg (by omega), if_pos (by omega)]
  ·rw [if_neg h1]
   by_cases h2 : j = N
   ·rw [if_pos h2, if_pos (by omega)]
   ·rw [if_neg h2, if_neg (by omega)]
theorem count_all {α : Type} (g : α → Bool × Nat) (N : Nat) : ∀ L : List α, (∀ x ∈ L, (g x).1 = true → (g x).2 < N) → sumN (fun i => L.countP (fun x => (g x).1 && decide ((g x).2 = i))) N + L.countP (fun x => !(g x).1) = L.length
 | [], _ => by simp [sumN_zero]
 | x :: r, h => by
  have ih := count_all g N r (fun y hy => h y (List.mem_cons_of_mem _ hy))
  simp only [List.countP_cons]
  rw [sumN_add, List.length_cons]
  cases hx : (g x).1
  ·simp only [Bool.false_and, Bool.not_false, if_true]
   rw [show sumN (fun i => if false = true then 1 else 0) N = 0 by simpa using sumN_zero N]
   omega
  ·have h1 := h x (List.mem_cons_self ..) hx
   simp only [Bool.true_and, decide_eq_true_eq]
   rw [sumN_one, if_pos h1]
   simp
   omega
open Go.Maps
open Go.Lib (decDigits nDigits)
def keyL (p : ByteArray × ByteArray) : List UInt8 := p.1.data.toList
def sortM (L : List (ByteArray × ByteArray)) : List (ByteArray × ByteArray) := L.mergeSort (fun p q => leB (keyL p) (keyL q))
theorem sortM_mem {L : List (ByteArray × ByteArray)} {p : ByteArray × ByteArray} : p ∈ sortM L ↔ p ∈ L := List.mem_mergeSort
theorem sortM_length (L : List (ByteArray × ByteArray)) : (sortM L).length = L.length := List.length_mergeSort L
theorem leB_trans : ∀ a b c : List UInt8, leB a b = true → leB b c = true → leB a c = true := fun a b c h1 h2 => by simp only [leB, decide_eq_true_eq] at *; exact List.le_trans h1 h2
theorem leB_total : ∀ a b : List UInt8, (leB a b || leB b a) = true := fun a b => by simp only [leB, Bool.or_eq_true, decide_eq_true_eq]; exact List.le_total a b
theorem sortM_sorted (L : List (ByteArray × ByteArray)) : (sortM L).Pairwise (fun p q => leB (keyL p) (keyL q) = true) :=
 List.pairwise_mergeSort (le := fun p q => leB (keyL p) (keyL q)) (fun a b c => leB_trans (keyL a) (keyL b) (keyL c)) (fun a b => leB_total (keyL a) (keyL b)) L
def massC (L : List (ByteArray × ByteArray)) : List Value := L.flatMap (fun p => [.string p.1, .string p.2])
theorem massC_length (L : List (ByteArray × ByteArray)) : (massC L).length = L.length * 2 := by
 unfold massC
 induction L with
 | nil => rfl
 | cons p r ih => rw [List.flatMap_cons, List.length_append, ih, List.length_cons]; simp; omega
theorem massC_append (L M : List (ByteArray × ByteArray)) : massC (L ++ M) = massC L ++ massC M := by simp [massC]
theorem massC_get {L : List (ByteArray × ByteArray)} : ∀ {i : Nat} {p : ByteArray × ByteArray}, L[i]? = some p → (massC L)[2 * i]? = some (.string p.1) ∧ (massC L)[2 * i + 1]? = some (.string p.2) := by
 induction L with
 | nil => intro i p h; simp at h
 | cons q r ih =>
  intro i p h
  cases i with
  | zero => simp at h; subst h; exact ⟨rfl, rfl⟩
  | succ i =>
   have h' : r[i]? = some p := by simpa using h
   obtain ⟨h1, h2⟩ := ih h'
   have e : massC (q :: r) = [.string q.1, .string q.2] ++ massC r := rfl
   rw [e, show 2 * (i + 1) = 2 + 2 * i by omega]
   constructor
   ·rw [List.getElem?_append_right (by simp)]; simpa using h1
   ·rw [List.getElem?_append_right (by simp <;> omega)]
    simp only [List.length_cons, List.length_nil]
    rw [show 2 + 2 * i + 1 - (0 + 1 + 1) = 2 * i + 1 by omega]
    exact h2
theorem MRow.of_owns {w : World} {base n : Nat} {e : TypeId} {v : Value} {L : List (ByteArray × ByteArray)} (h : w.ownsRow base e 2 v n (massC L)) : MRow w v L := by
 have hn : n = L.length := by have := h.1; rw [massC_length] at this; omega
 subst hn
 refine ⟨?_⟩
 have hh := h
 rcases h.2 with ⟨rfl, h0⟩ | ⟨g, cap, cur, rfl, hb, hg, h1, h2, h3, h4⟩
 ·exact ⟨none, 0, by rw [h0], by omega, by omega, fun i x hx => by have := (List.getElem?_eq_some_iff.1 hx).1; omega⟩
 ·refine ⟨some ⟨g, 0, none⟩, cap, rfl, h1, by unfold maxLen at h2; exact h2, fun i x hx => ⟨g, 0, rfl, (Array.getElem?_eq_some_iff.1 hg).1, ?_⟩⟩
  obtain ⟨m1, m2⟩ := massC_get hx
  have k1 := hh.cells rfl _ _ m1
  have k2 := hh.cells rfl _ _ m2
  rw [Addr.add_lit] at k1 k2
  rw [← Nat.add_assoc] at k2
  exact ⟨k1, k2⟩
theorem numB_late (i : Nat) : (numB i).data.toList ≠ lateB.data.toList := by
 intro e
 have h : (108 : UInt8) ∈ decDigits i := by
  rw [← numB_list, e]; decide
 exact absurd (allDig_dec i 108 h) (by decide)
open Go.Shelf
theorem info_mass : (Tryz.prog.info? 39).map (fun i => (i.zero, i.size, i.bytes)) = some (some (.agg #[.string ⟨#[]⟩, .string ⟨#[]⟩]), 2, 32) := by kernel_rfl
theorem zero_num (w : World) : (zeroValue 22).run Tryz.prog w = .ok (.string ⟨#[]⟩) w := by kernel_rfl
theorem shB_zero (t : Nat) : shB 0 t = ⟨#[48]⟩ := by
 have e : qmk false 0 t = 0 := by unfold qmk sgn; simp
 have h1 : ¬ ovQ 0 := by
  have : nDigits 0 ≤ 4000 := by rw [nDigits_zero]; omega
  have : nDigits 1 ≤ 4000 := by rw [nDigits_one]; omega
  unfold ovQ
  rw [show (0 : Rat).num.natAbs = 0 from rfl, show (0 : Rat).den = 1 from rfl]
  omega
 unfold shB
 rw [e]
 unfold outB
 rw [if_neg h1]
 apply ba_ext
 rw [txQ, txB_list, show (0 : Rat).num.natAbs = 0 from rfl, show (0 : Rat).den = 1 from rfl, show decide ((0 : Rat).num < 0) = false from rfl, dec_zero]
 rfl
end Go.Proofs.YtlmnpocifldpmaaGreatDoor
namespace Go.Proofs.YtlmnpocifldpmaaGreatDoor
open Go.RowKit
open Go.Shelf
open Go.Lib (decDigits nDigits)
theorem r3_Share (w : World) (v : Value) (m n : Nat) (hv : IsN .i64 w v m) (hn : n ≤ 256) (hm : m ≤ 2 ^ 256) :
 Calls Tryz.prog 49 #[v, .int .i64 (n : Nat)] w fun e w' => e = .returned (.string (shB m (2 ^ n))) ∧ Below w.heap.size w w' := by
 have RT := fun V => hid (r3_Two V n (by omega))
 obtain ⟨t, ht⟩ : ∃ t, 2 ^ n = t := ⟨_, rfl⟩
 rw [ht] at RT ⊢
 have tle : t ≤ 2 ^ 256 := by rw [← ht]; exact Nat.pow_le_pow_right (by omega) (by omega)
 have tpos : t ≠ 0 := by rw [← ht]; exact Nat.ne_of_gt (Nat.pow_pos (by omega))
 have big : ∀ x, x ≤ 2 ^ 256 → nDigits x ≤ 78 := fun x hx => nDigits_le (by omega) (Nat.lt_of_le_of_lt hx (by decide))
 have dm := big m hm; have dt := big t tle
 have LM : Hid ((limbs m).length ≤ 1000000) := num_limbs (by omega)
 have LT : Hid ((limbs t).length ≤ 1000000) := num_limbs (by omega)
 have RM := fun V => hid (r2_Make_num V m t (by omega) (by omega) tpos)
 have V0 := hid hv
 clear hv ht tle tpos big hm dm dt
 go_enter Tryz.func49, Tryz.ntmps49
 go_wp2_with fail
 refine (r1_Write _ _ _ V0.out LM.out).mono ?_; rintro e w1 ⟨rfl, hb1⟩
 have B1 := hid hb1; clear hb1
 go_wp2_with fail
 refine (RT _).out.mono ?_; rintro e w2 ⟨⟨v2, rfl, hv2⟩, hb2⟩
 have V2 := hid hv2; have B2 := hid (bnext B1.out hb2); clear hv2 hb2
 go_wp2_with fail
 refine (r1_Write _ _ _ V2.out LT.out).mono ?_; rintro e w3 ⟨rfl, hb3⟩
 have B3 := hid (bnext B2.out hb3); clear hb3
 go_wp2_with fail
 refine (RM _).out.mono ?_; rintro e w4 ⟨rfl, hb4⟩
 have B4 := hid (bnext B3.out hb4); clear hb4
 go_wp2_with fail
 go_ret
 exact ⟨rfl, B4.out⟩
theorem r21_ShareS (w : World) (k n : Nat) (hk : k ≤ 1000000) (hn : n ≤ 256) :
 Calls Tryz.prog 14 #[.int .i64 (k : Nat), .int .i64 (n : Nat)] w fun e w' => e = .returned (.string (shB k (2 ^ n))) ∧ Below w.heap.size w w' := by
 have H1 := fun V => hid (r2_Int V k (by omega))
 have H2 := fun V => hid (r1_Read_num V k (Nat.le_trans (nDigits_le (k := 7) (by omega) (by omega)) (by omega)))
 have hk2 : k ≤ 2 ^ 256 := Nat.le_trans hk (by decide)
 have H3 := fun V v hv => hid (r3_Share V v k n hv hn hk2)
 generalize shB k (2 ^ n) = B at *
 generalize numB k = A1 at *
 clear hk2
 go_enter Tryz.func14, Tryz.ntmps14
 go_wp2_with fail
 refine (H1 _).out.mono ?_; rintro e w1 ⟨rfl, rfl⟩
 go_wp2_with fail
 refine (H2 _).out.mono ?_; rintro e w2 ⟨⟨v2, rfl, hv2⟩, hb2⟩
 have y2 := hid hb2
 have V2 := hid hv2
 obtain ⟨a2, c2, rfl, -, -, -⟩ := hv2.openI
 clear hb2 hv2
 go_wp2_with fail
 refine (H3 _ _ V2.out).out.mono ?_; rintro e w3 ⟨rfl, hb3⟩
 have y3 := hid (bnext y2.out hb3)
 clear hb3
 go_wp2_with fail
 go_ret
 exact ⟨rfl, y3.out⟩
end Go.Proofs.YtlmnpocifldpmaaGreatDoor
namespace Go.Proofs.YtlmnpocifldpmaaGreatDoor
theorem sumN_shift (f : Nat → Nat) : ∀ n, sumN f (n + 1) = f 0 + sumN (fun i => f (i + 1)) n
 | 0 => by simp [sumN]
 | n + 1 => by rw [sumN, sumN_shift f n, sumN]; omega
theorem sumN_mul (k : Nat) (f : Nat → Nat) : ∀ n, sumN (fun i => k * f i) n = k * sumN f n
 | 0 => rfl
 | n + 1 => by rw [sumN, sumN, sumN_mul k f n, Nat.mul_add]
theorem sumN_le {f g : Nat → Nat} : ∀ {n : Nat}, (∀ i, i < n → f i ≤ g i) → sumN f n ≤ sumN g n
 | 0, _ => Nat.le_refl _
 | n + 1, h => by
  rw [sumN, sumN]
  have := sumN_le (n := n) fun i hi => h i (by omega)
  have := h n (by omega)
  omega
theorem sumN_mono {f : Nat → Nat} {m n : Nat} (h : m ≤ n) : sumN f m ≤ sumN f n := by
 induction n with
 | zero => rw [show m = 0 by omega]; exact Nat.le_refl _
 | succ n ih =>
  rcases Nat.lt_or_ge n m with h1 | h1
  ·rw [show m = n + 1 by omega]; exact Nat.le_refl _
  ·have := ih h1; rw [sumN]; omega
theorem sumN_at {f : Nat → Nat} {i n : Nat} (h : i < n) : f i ≤ sumN f n := by
 have h1 : sumN f (i + 1) ≤ sumN f n := sumN_mono (by omega)
 rw [sumN] at h1; omega
def cvo (f g : Nat → Nat) (n : Nat) : Nat := sumN (fun s => f s * g (n - s)) (n + 1)
theorem cvo_congr {f f' g g' : Nat → Nat} {n : Nat} (h1 : ∀ s, s ≤ n → f s = f' s) (h2 : ∀ s, s ≤ n → g s = g' s) : cvo f g n = cvo f' g' n := by
 unfold cvo
 refine sumN_congr fun s hs => ?_
 rw [h1 s (by omega), h2 (n - s) (by omega)]
theorem flip_sum : ∀ (n : Nat) (a : Nat → Nat → Nat), sumN (fun s => a s (n - s)) (n + 1) = sumN (fun s => a (n - s) s) (n + 1)
 | 0, a => by simp [sumN]
 | n + 1, a => by
  have ih := flip_sum n fun x y => a (x + 1) y
  rw [sumN_shift]
  have e1 : sumN (fun i => a (i + 1) (n + 1 - (i + 1))) (n + 1) = sumN (fun s => a (s + 1) (n - s)) (n + 1) := sumN_congr fun i _ => by rw [show n + 1 - (i + 1) = n - i by omega]
  have e2 : sumN (fun s => a (n - s + 1) s) (n + 1) = sumN (fun s => a (n + 1 - s) s) (n + 1) := sumN_congr fun i hi => by rw [show n + 1 - i = n - i + 1 by omega]
  rw [e1, ih, e2]
  show _ = sumN (fun s => a (n + 1 - s) s) (n + 1) + a (n + 1 - (n + 1)) (n + 1)
  rw [Nat.sub_self, Nat.sub_zero]; omega
theorem cvo_comm (f g : Nat → Nat) (n : Nat) : cvo f g n = cvo g f n := by
 unfold cvo
 rw [flip_sum n fun x y => f x * g y]
 exact sumN_congr fun s _ => Nat.mul_comm _ _
theorem tri_sum : ∀ (n : Nat) (a : Nat → Nat → Nat → Nat), sumN (fun s => sumN (fun u => a u (s - u) (n - s)) (s + 1)) (n + 1) = sumN (fun u => sumN (fun t => a u t (n - u - t)) (n - u + 1)) (n + 1)
 | 0, a => by simp [sumN]
 | n + 1, a => by
  have ih := tri_sum n fun x y z => a (x + 1) y z
  have e1 : sumN (fun s => sumN (fun u => a u (s - u) (n + 1 - s)) (s + 1)) (n + 1 + 1) = sumN (fun s => a 0 s (n + 1 - s)) (n + 1 + 1) + sumN (fun s => sumN (fun u => a (u + 1) (s - u) (n - s)) (s + 1)) (n + 1) := by
   have h : ∀ s, sumN (fun u => a u (s - u) (n + 1 - s)) (s + 1) = a 0 s (n + 1 - s) + sumN (fun u => a (u + 1) (s - (u + 1)) (n + 1 - s)) s := fun s => by rw [sumN_shift, Nat.sub_zero]
   rw [sumN_congr (fun s _ => h s), sumN_add]
   congr 1
   rw [sumN_shift]
   simp only [sumN, Nat.zero_add]
   rw [← sumN]
   refine sumN_congr fun s _ => ?_
   rw [show sumN (fun u => a (u + 1) (s + 1 - (u + 1)) (n + 1 - (s + 1))) s + a (s + 1) (s + 1 - (s + 1)) (n + 1 - (s + 1)) = sumN (fun u => a (u + 1) (s + 1 - (u + 1)) (n + 1 - (s + 1))) (s + 1) from rfl]
   rw [show sumN (fun u => a (u + 1) (s - u) (n - s)) s + a (s + 1) (s - s) (n - s) = sumN (fun u => a (u + 1) (s - u) (n - s)) (s + 1) from rfl]
   refine sumN_congr fun u _ => ?_
   rw [show s + 1 - (u + 1) = s - u by omega, show n + 1 - (s + 1) = n - s by omega]
  rw [e1, ih, sumN_shift (fun u => sumN (fun t => a u t (n + 1 - u - t)) (n + 1 - u + 1))]
  congr 1
  refine sumN_congr fun u hu => ?_
  rw [show n + 1 - (u + 1) + 1 = n - u + 1 by omega]
  exact sumN_congr fun t _ => by rw [show n + 1 - (u + 1) - t = n - u - t by omega]
theorem cvo_assoc (f g h : Nat → Nat) (n : Nat) : cvo (cvo f g) h n = cvo f (cvo g h) n := by
 unfold cvo
 have e1 : sumN (fun s => sumN (fun s_1 => f s_1 * g (s - s_1)) (s + 1) * h (n - s)) (n + 1) = sumN (fun s => sumN (fun u => f u * g (s - u) * h (n - s)) (s + 1)) (n + 1) := sumN_congr fun s _ => by
  rw [Nat.mul_comm, ← sumN_mul]
  exact sumN_congr fun u _ => Nat.mul_comm _ _
 have e2 : sumN (fun s => f s * sumN (fun s_1 => g s_1 * h (n - s - s_1)) (n - s + 1)) (n + 1) = sumN (fun u => sumN (fun t => f u * g t * h (n - u - t)) (n - u + 1)) (n + 1) := sumN_congr fun s _ => by
  rw [← sumN_mul]
  exact sumN_congr fun u _ => by rw [Nat.mul_assoc]
 rw [e1, e2]
 exact tri_sum n fun x y z => f x * g y * h z
def chi (c : Nat → Bool) (j : Nat) : Nat := if c j = true then 1 else 0
theorem chi_le (c : Nat → Bool) (j : Nat) : chi c j ≤ 1 := by unfold chi; split <;> omega
def cvF (c : Nat → Bool) (f : Nat → Nat) : Nat → Nat → Nat
 | _, 0 => 0
 | j, n + 1 => (if c (j + 1) = true then f n else 0) + cvF c f (j + 1) n
theorem cvF_none {c : Nat → Bool} {f : Nat → Nat} : ∀ (n j : Nat), (∀ i, j < i → c i = false) → cvF c f j n = 0
 | 0, _, _ => rfl
 | n + 1, j, h => by
  rw [cvF, if_neg (by simp [h (j + 1) (by omega)]), cvF_none n (j + 1) fun i hi => h i (by omega)]
theorem cvF_sum (c : Nat → Bool) (f : Nat → Nat) : ∀ n j, cvF c f j n = sumN (fun i => chi c (j + i + 1) * f (n - (i + 1))) n
 | 0, j => rfl
 | n + 1, j => by
  rw [cvF, cvF_sum c f n (j + 1), sumN_shift]
  congr 1
  ·unfold chi
   rw [show j + 0 + 1 = j + 1 by omega, show n + 1 - (0 + 1) = n by omega]
   split <;> simp
  ·exact sumN_congr fun i _ => by rw [show j + 1 + i + 1 = j + (i + 1) + 1 by omega, show n - (i + 1) = n + 1 - (i + 1 + 1) by omega]
theorem cvo_chi (c : Nat → Bool) (f : Nat → Nat) (n : Nat) : cvo (chi c) f n = (if c 0 = true then f n else 0) + cvF c f 0 n := by
 unfold cvo
 rw [sumN_shift, cvF_sum]
 congr 1
 ·unfold chi
  rw [Nat.sub_zero]
  split <;> simp
 ·exact sumN_congr fun i _ => by rw [show 0 + i + 1 = i + 1 by omega]
def dlt (j : Nat) : Nat := if j = 0 then 1 else 0
theorem cvo_dlt (f : Nat → Nat) (n : Nat) : cvo dlt f n = f n := by
 unfold cvo
 rw [sumN_shift]
 have : sumN (fun i => dlt (i + 1) * f (n - (i + 1))) n = sumN (fun _ => 0) n := sumN_congr fun i _ => by unfold dlt; simp
 rw [this, sumN_zero]
 unfold dlt
 simp
def pw2 (j : Nat) : Nat := 2 ^ j
open Go.RowKit
def sdx (N D : Nat) : Nat → Nat × Bool
 | 0 => (N, decide (N ≠ 0))
 | j + 1 => if (sdx N D j).2 = true then (if D ≤ 2 * (sdx N D j).1 then (2 * (sdx N D j).1 - D, decide (2 * (sdx N D j).1 ≠ D)) else (2 * (sdx N D j).1, true)) else sdx N D j
def oneJ (N D : Nat) : Nat → Bool
 | 0 => false
 | j + 1 => (sdx N D j).2 && decide (D ≤ 2 * (sdx N D j).1)
def zeroJ (N D : Nat) : Nat → Bool
 | 0 => decide (N = 0)
 | j + 1 => (sdx N D j).2 && decide (2 * (sdx N D j).1 ≤ D)
theorem sdx_shut {N D j : Nat} (h : (sdx N D j).2 = false) : ∀ i, j ≤ i → (sdx N D i).2 = false
 | 0, hi => by rw [show j = 0 by omega] at h; exact h
 | i + 1, hi => by
  rcases Nat.lt_or_ge i j with h1 | h1
  ·rw [← show j = i + 1 by omega]; exact h
  ·have := sdx_shut h i h1
   rw [sdx, if_neg (by simp [this])]; exact this
theorem oneJ_shut {N D j : Nat} (h : (sdx N D j).2 = false) (i : Nat) (hi : j < i) : oneJ N D i = false := by
 cases i with
 | zero => rfl
 | succ i => rw [oneJ, sdx_shut h i (by omega)]; rfl
theorem zeroJ_shut {N D j : Nat} (h : (sdx N D j).2 = false) (i : Nat) (hi : j < i) : zeroJ N D i = false := by
 cases i with
 | zero => omega
 | succ i => rw [zeroJ, sdx_shut h i (by omega)]; rfl
theorem sdx_lt {N D : Nat} (h : N < D) : ∀ j, (sdx N D j).1 < D
 | 0 => h
 | j + 1 => by
  have := sdx_lt h j
  rw [sdx]
  split
  ·split
   ·dsimp only; omega
   ·dsimp only; omega
  ·exact this
def tabL (f : Nat → Bool) (n j : Nat) : List Value := (List.range (n + 1)).map fun i => .bool (decide (i < j) && f i)
@[simp] theorem tabL_length (f : Nat → Bool) (n j : Nat) : (tabL f n j).length = n + 1 := by simp [tabL]
theorem tabL_get {f : Nat → Bool} {n j i : Nat} (h : i ≤ n) : (tabL f n j)[i]? = some (.bool (decide (i < j) && f i)) := by simp [tabL, List.getElem?_range (show i < n + 1 by omega)]
theorem tabL_set {f : Nat → Bool} {n j : Nat} (h : j ≤ n) : (tabL f n j).set j (.bool (f j)) = tabL f n (j + 1) := by
 apply List.ext_getElem?
 intro i
 rw [List.getElem?_set]
 by_cases hi : j = i
 ·subst hi
  rw [if_pos rfl, if_pos (by simp; omega), tabL_get h]
  simp
 ·rw [if_neg hi]
  by_cases h2 : i ≤ n
  ·rw [tabL_get h2, tabL_get h2]
   congr 2
   by_cases h3 : i < j
   ·simp [h3, show i < j + 1 by omega]
   ·simp [h3, show ¬ i < j + 1 by omega]
  ·rw [List.getElem?_eq_none (by simp; omega), List.getElem?_eq_none (by simp; omega)]
theorem tabL_shut {f : Nat → Bool} {n j : Nat} (h : ∀ i, j ≤ i → f i = false) : ∀ k, j ≤ k → tabL f n k = tabL f n j := by
 intro k hk
 apply List.ext_getElem?
 intro i
 by_cases h2 : i ≤ n
 ·rw [tabL_get h2, tabL_get h2]
  by_cases h3 : i < j
  ·simp [h3, show i < k by omega]
  ·simp [h i (by omega)]
 ·rw [List.getElem?_eq_none (by simp; omega), List.getElem?_eq_none (by simp; omega)]
theorem tabL_skip {f : Nat → Bool} {n j : Nat} (h : f j = false) : tabL f n (j + 1) = tabL f n j := by
 apply List.ext_getElem?
 intro i
 by_cases h2 : i ≤ n
 ·rw [tabL_get h2, tabL_get h2]
  by_cases h3 : i < j
  ·simp [h3, show i < j + 1 by omega]
  ·by_cases h4 : i = j
   ·subst h4; simp [h]
   ·simp [h3, show ¬ i < j + 1 by omega]
 ·rw [List.getElem?_eq_none (by simp; omega), List.getElem?_eq_none (by simp; omega)]
theorem tabL_zero (f : Nat → Bool) (n : Nat) : tabL f n 0 = List.replicate (n + 1) (.bool false) := by
 apply List.ext_getElem?
 intro i
 by_cases h2 : i ≤ n
 ·rw [tabL_get h2, List.getElem?_replicate, if_pos (by omega)]; simp
 ·rw [List.getElem?_eq_none (by simp; omega), List.getElem?_eq_none (by simp; omega)]
def allB (f : Nat → Bool) (n : Nat) : List Value := (List.range (n + 1)).map fun i => .bool (f i)
theorem allB_get {f : Nat → Bool} {n i : Nat} (h : i ≤ n) : (allB f n)[i]? = some (.bool (f i)) := by simp [allB, List.getElem?_range (show i < n + 1 by omega)]
theorem tabL_full (f : Nat → Bool) (n : Nat) {j : Nat} (h : n < j) : tabL f n j = allB f n := by
 unfold allB
 apply List.ext_getElem?
 intro i
 by_cases h2 : i ≤ n
 ·rw [tabL_get h2]
  simp [List.getElem?_range (show i < n + 1 by omega), show i < j by omega]
 ·rw [List.getElem?_eq_none (by simp; omega), List.getElem?_eq_none (by simp; omega)]
def cw : Nat → (List UInt8 → Bool) → Nat
 | 0, P => if P [] = true then 1 else 0
 | n + 1, P => cw n (fun l => P (48 :: l)) + cw n (fun l => P (49 :: l))
theorem cw_congr : ∀ {n : Nat} {P Q : List UInt8 → Bool}, (∀ l, l.length = n → P l = Q l) → cw n P = cw n Q
 | 0, P, Q, h => by rw [cw, cw, h [] rfl]
 | n + 1, P, Q, h => by
  rw [cw, cw, cw_congr (n := n) (fun l hl => h (48 :: l) (by simp [hl])), cw_congr (n := n) (fun l hl => h (49 :: l) (by simp [hl]))]
theorem cw_snoc : ∀ (n : Nat) (P : List UInt8 → Bool), cw (n + 1) P = cw n (fun l => P (l ++ [48])) + cw n (fun l => P (l ++ [49]))
 | 0, P => by simp [cw]
 | n + 1, P => by
  rw [cw, cw_snoc n, cw_snoc n, cw, cw]
  simp only [List.cons_append]
  omega
theorem countP_two (L : List (List UInt8)) (P : List UInt8 → Bool) : (L.flatMap fun l => [l ++ [48], l ++ [49]]).countP P = L.countP (fun l => P (l ++ [48])) + L.countP (fun l => P (l ++ [49])) := by
 induction L with
 | nil => rfl
 | cons a r ih =>
  rw [List.flatMap_cons, List.countP_append, ih]
  simp only [List.countP_cons, List.countP_nil]
  omega
theorem cw_all : ∀ (n : Nat) (P : List UInt8 → Bool), (allW n).countP P = cw n P
 | 0, P => by simp [allW, cw]
 | n + 1, P => by rw [allW, countP_two, cw_all n, cw_all n, ← cw_snoc]
theorem cw_true : ∀ n, cw n (fun _ => true) = 2 ^ n
 | 0 => rfl
 | n + 1 => by rw [cw, cw_true n, Nat.pow_succ]; omega
theorem cw_false : ∀ n, cw n (fun _ => false) = 0
 | 0 => rfl
 | n + 1 => by rw [cw, cw_false n]
def coinP (N D K T : Nat) (P1 P0 : List UInt8 → Bool) (l : List UInt8) : Bool :=
 (toss N D K T l).1 && (if (toss N D K T l).2.1 = 1 then P1 (l.drop (toss N D K T l).2.2) else P0 (l.drop (toss N D K T l).2.2))
theorem toss_set {N D K T : Nat} {l : List UInt8} (h : sdB N D K T = true) : toss N D K T l = (true, sdV N D K T, 0) := by
 unfold toss; rw [if_pos h]
theorem toss_cons {N D K T : Nat} {b : UInt8} {l : List UInt8} (h : sdB N D K T = false) : toss N D K T (b :: l) = ((toss N D (2 * K + (if b = 49 then 1 else 0)) (2 * T) l).1, (toss N D (2 * K + (if b = 49 then 1 else 0)) (2 * T) l).2.1, (toss N D (2 * K + (if b = 49 then 1 else 0)) (2 * T) l).2.2 + 1) := by
 rw [toss, if_neg (by simp [h])]
theorem toss_nil {N D K T : Nat} (h : sdB N D K T = false) : toss N D K T [] = (false, 0, 0) := by
 rw [toss, if_neg (by simp [h])]
theorem coinP_set1 {N D K T : Nat} {P1 P0 : List UInt8 → Bool} {l : List UInt8} (h : sdB N D K T = true) (hv : sdV N D K T = 1) : coinP N D K T P1 P0 l = P1 l := by
 unfold coinP; rw [toss_set h]; simp [hv]
theorem coinP_set0 {N D K T : Nat} {P1 P0 : List UInt8 → Bool} {l : List UInt8} (h : sdB N D K T = true) (hv : sdV N D K T = 0) : coinP N D K T P1 P0 l = P0 l := by
 unfold coinP; rw [toss_set h]; simp [hv]
theorem coinP_cons {N D K T : Nat} {P1 P0 : List UInt8 → Bool} {b : UInt8} {l : List UInt8} (h : sdB N D K T = false) : coinP N D K T P1 P0 (b :: l) = coinP N D (2 * K + (if b = 49 then 1 else 0)) (2 * T) P1 P0 l := by
 unfold coinP; rw [toss_cons h]; simp
theorem coinP_nil {N D K T : Nat} {P1 P0 : List UInt8 → Bool} (h : sdB N D K T = false) : coinP N D K T P1 P0 [] = false := by
 unfold coinP; rw [toss_nil h]; rfl
structure OpenC (N D K T j x : Nat) : Prop where
 eq : N * T = K * D + x
 pos : 0 < x
 lt : x < D
 at_ : sdx N D j = (x, true)
theorem OpenC.undec {N D K T j x : Nat} (h : OpenC N D K T j x) : sdB N D K T = false := by
 obtain ⟨h1, h2, h3, -⟩ := h
 unfold sdB
 rw [Bool.or_eq_false_iff, decide_eq_false_iff_not, decide_eq_false_iff_not]
 omega
theorem twice_eq {N D K T x b : Nat} (h : N * T = K * D + x) : N * (2 * T) = 2 * (K * D) + 2 * x ∧ (2 * K + b) * D = 2 * (K * D) + b * D := by
 constructor
 ·rw [Nat.mul_left_comm, h]; omega
 ·rw [Nat.add_mul, Nat.mul_assoc]
theorem cw_coin {N D : Nat} {P1 P0 : List UInt8 → Bool} : ∀ (n : Nat) {K T j x : Nat}, OpenC N D K T j x → cw n (coinP N D K T P1 P0) = cvF (oneJ N D) (fun m => cw m P1) j n + cvF (zeroJ N D) (fun m => cw m P0) j n
 | 0, K, T, j, x, h => by rw [cw, coinP_nil h.undec]; rfl
 | n + 1, K, T, j, x, h => by
  have hu := h.undec
  obtain ⟨h1, h2, h3, h4⟩ := h
  have c0 : cw n (fun l => coinP N D K T P1 P0 (48 :: l)) = cw n (coinP N D (2 * K + 0) (2 * T) P1 P0) := cw_congr fun l _ => by rw [coinP_cons hu]; rfl
  have c1 : cw n (fun l => coinP N D K T P1 P0 (49 :: l)) = cw n (coinP N D (2 * K + 1) (2 * T) P1 P0) := cw_congr fun l _ => by rw [coinP_cons hu]; rfl
  rw [cw, c0, c1, cvF, cvF]
  have e1 := (twice_eq (b := 0) h1).1
  have e2 : (2 * K + 0) * D = 2 * (K * D) := by rw [Nat.add_zero, Nat.mul_assoc]
  have e3 : (2 * K + 1) * D = 2 * (K * D) + D := by rw [Nat.add_mul, Nat.mul_assoc, Nat.one_mul]
  have eo : oneJ N D (j + 1) = decide (D ≤ 2 * x) := by rw [oneJ, h4]; simp
  have ez : zeroJ N D (j + 1) = decide (2 * x ≤ D) := by rw [zeroJ, h4]; simp
  rw [eo, ez]
  rcases Nat.lt_trichotomy (2 * x) D with hc | hc | hc
  ·-- a 0 leaves it open, a 1 gives 0
   have hs : sdx N D (j + 1) = (2 * x, true) := by rw [sdx, h4]; simp; omega
   have ih := cw_coin (N := N) (D := D) (P1 := P1) (P0 := P0) n (K := 2 * K + 0) (T := 2 * T) (j := j + 1) (x := 2 * x) ⟨by omega, by omega, hc, hs⟩
   have hd : sdB N D (2 * K + 1) (2 * T) = true := by unfold sdB; rw [Bool.or_eq_true, decide_eq_true_eq, decide_eq_true_eq]; left; omega
   have hv : sdV N D (2 * K + 1) (2 * T) = 0 := by unfold sdV; rw [if_pos (by omega)]
   rw [ih, cw_congr (n := n) (P := coinP N D (2 * K + 1) (2 * T) P1 P0) (Q := P0) (fun l _ => coinP_set0 hd hv), if_neg (by simp; omega), if_pos (by simp; omega)]
   omega
  ·-- both give a result
   have hs : (sdx N D (j + 1)).2 = false := by rw [sdx, h4]; simp [hc]
   have hd0 : sdB N D (2 * K + 0) (2 * T) = true := by unfold sdB; rw [Bool.or_eq_true, decide_eq_true_eq, decide_eq_true_eq]; right; omega
   have hv0 : sdV N D (2 * K + 0) (2 * T) = 1 := by unfold sdV; rw [if_neg (by omega)]
   have hd1 : sdB N D (2 * K + 1) (2 * T) = true := by unfold sdB; rw [Bool.or_eq_true, decide_eq_true_eq, decide_eq_true_eq]; left; omega
   have hv1 : sdV N D (2 * K + 1) (2 * T) = 0 := by unfold sdV; rw [if_pos (by omega)]
   rw [cw_congr (n := n) (P := coinP N D (2 * K + 0) (2 * T) P1 P0) (Q := P1) (fun l _ => coinP_set1 hd0 hv0), cw_congr (n := n) (P := coinP N D (2 * K + 1) (2 * T) P1 P0) (Q := P0) (fun l _ => coinP_set0 hd1 hv1), if_pos (by simp; omega), if_pos (by simp; omega), cvF_none n (j + 1) (fun i hi => oneJ_shut hs i hi), cvF_none n (j + 1) (fun i hi => zeroJ_shut hs i hi)]
   rfl
  ·-- a 1 leaves it open, a 0 gives 1
   have hs : sdx N D (j + 1) = (2 * x - D, true) := by
    rw [sdx, h4]
    show (if true = true then (if D ≤ 2 * x then (2 * x - D, decide (2 * x ≠ D)) else (2 * x, true)) else (x, true)) = _
    rw [if_pos rfl, if_pos (by omega), decide_eq_true (by omega)]
   have ih := cw_coin (N := N) (D := D) (P1 := P1) (P0 := P0) n (K := 2 * K + 1) (T := 2 * T) (j := j + 1) (x := 2 * x - D) ⟨by omega, by omega, by omega, hs⟩
   have hd : sdB N D (2 * K + 0) (2 * T) = true := by unfold sdB; rw [Bool.or_eq_true, decide_eq_true_eq, decide_eq_true_eq]; right; omega
   have hv : sdV N D (2 * K + 0) (2 * T) = 1 := by unfold sdV; rw [if_neg (by omega)]
   rw [ih, cw_congr (n := n) (P := coinP N D (2 * K + 0) (2 * T) P1 P0) (Q := P1) (fun l _ => coinP_set1 hd hv), if_pos (by simp; omega), if_neg (by simp; omega)]
   omega
theorem cw_first {N D : Nat} (h : N < D) (n : Nat) (P1 P0 : List UInt8 → Bool) : cw n (coinP N D 0 1 P1 P0) = cvo (chi (oneJ N D)) (fun m => cw m P1) n + cvo (chi (zeroJ N D)) (fun m => cw m P0) n := by
 rw [cvo_chi, cvo_chi]
 have o0 : oneJ N D 0 = false := rfl
 rw [o0, if_neg (by simp)]
 by_cases h0 : N = 0
 ·subst h0
  have hs : (sdx 0 D 0).2 = false := by simp [sdx]
  have hd : sdB 0 D 0 1 = true := by simp [sdB]
  have hv : sdV 0 D 0 1 = 0 := by simp [sdV]
  rw [cw_congr (n := n) (Q := P0) (fun l _ => coinP_set0 hd hv), show zeroJ 0 D 0 = true from by simp [zeroJ], if_pos rfl, cvF_none n 0 (fun i hi => oneJ_shut hs i hi), cvF_none n 0 (fun i hi => zeroJ_shut hs i hi)]
  omega
 ·have hz : zeroJ N D 0 = false := by simp [zeroJ, h0]
  rw [hz, if_neg (by simp), cw_coin n (K := 0) (T := 1) (j := 0) (x := N) ⟨by omega, by omega, h, by simp [sdx, h0]⟩]
  omega
end Go.Proofs.YtlmnpocifldpmaaGreatDoor
namespace Go.Proofs
open Go.Shelf
def Tryz.lays145_ren : Go.Shelf.Ren := ⟨fun | 145 => 182 | 220 => 243 | 219 => 286 | 217 => 306 | 225 => 307 | 224 => 308 | 267 => 309 | 266 => 317 | 314 => 318 | n => n, fun | 9 => 9 | 4 => 4 | 59 => 199 | 3 => 3 | 5 => 5 | 46 => 125 | 146 => 176 | 51 => 175 | n => n, fun | 1 => 3 | n => n⟩
theorem Tryz.lays145 : Go.Proofs.Lays.n145 Tryz.prog Tryz.lays145_ren := {
 mixed := by kernel_rfl
 f145 := Tryz.func182.trans (congrArg some (by kernel_rfl))
 f217 := Tryz.func306.trans (congrArg some (by kernel_rfl))
 f219 := Tryz.func286.trans (congrArg some (by kernel_rfl))
 f220 := Tryz.func243.trans (congrArg some (by kernel_rfl))
 f224 := Tryz.func308.trans (congrArg some (by kernel_rfl))
 f225 := Tryz.func307.trans (congrArg some (by kernel_rfl))
 f266 := Tryz.func317.trans (congrArg some (by kernel_rfl))
 f267 := Tryz.func309.trans (congrArg some (by kernel_rfl))
 f314 := Tryz.func318.trans (congrArg some (by kernel_rfl))
 t3 := Tryz.underlying3
 a3 := Tryz.isAgg3
 z3 := Tryz.sizeOf3
 v3 := Tryz.zeroValue3
 t4 := Tryz.underlying4
 a4 := Tryz.isAgg4
 z4 := Tryz.sizeOf4
 v4 := Tryz.zeroValue4
 t5 := Tryz.underlying5
 a5 := Tryz.isAgg5
 z5 := Tryz.sizeOf5
 v5 := Tryz.zeroValue5
 t9 := Tryz.underlying9
 a9 := Tryz.isAgg9
 z9 := Tryz.sizeOf9
 v9 := Tryz.zeroValue9
 t46 := Tryz.underlying125
 a46 := Tryz.isAgg125
 z46 := Tryz.sizeOf125
 v46 := Tryz.zeroValue125
 t51 := Tryz.underlying175
 a51 := Tryz.isAgg175
 z51 := Tryz.sizeOf175
 v51 := Tryz.zeroValue175
 t59 := Tryz.underlying199
 a59 := Tryz.isAgg199
 z59 := Tryz.sizeOf199
 v59 := Tryz.zeroValue199
 t146 := Tryz.underlying176
 a146 := Tryz.isAgg176
 z146 := Tryz.sizeOf176
 v146 := Tryz.zeroValue176
 g1 := by kernel_rfl }
theorem Tryz.strings_Cut (s sep : ByteArray) (m : Int) (w : World) (hs : s.size < 4294967281) (hm : w.cell? ⟨3, 0, none⟩ = some (.int .i64 m)) :
 Calls Tryz.prog 182 #[.string s, .string sep] w fun e w' => e = .returned (.tuple #[.string ⟨(Lib.cut s.data.toList sep.data.toList).1.toArray⟩, .string ⟨(Lib.cut s.data.toList sep.data.toList).2.1.toArray⟩, .bool (Lib.cut s.data.toList sep.data.toList).2.2]) ∧ ∃ n, w' = w.drewN n := Any.strings_Cut Tryz.lays145 s sep m w hs hm
end Go.Proofs
namespace Go.Proofs.YtlmnpocifldpmaaGreatDoor
open Go.RowKit
open Go.Shelf
theorem l_cut (w : World) (s : ByteArray) (hs : s.size ≤ 100000000) (hL : Lay w) :
 Calls Tryz.prog 182 #[.string s, .string ⟨#[47]⟩] w fun e w' => e = .returned (.tuple #[.string (cW s), .string (cB s), .bool (cS s)]) ∧ Below w.heap.size w w' := by
 obtain ⟨m, hm⟩ := hL.max
 refine (Tryz.strings_Cut s ⟨#[47]⟩ m w (by omega) hm).mono ?_
 rintro e w' ⟨rfl, n, rfl⟩
 exact ⟨rfl, below_drewN (Below.refl _ _) n⟩
structure Cuts (s W B D : ByteArray) (S M I fb : Bool) : Prop where
 cut : ∀ w, Lay w → Calls Tryz.prog 182 #[.string s, .string ⟨#[47]⟩] w fun e w' => e = .returned (.tuple #[.string W, .string B, .bool S]) ∧ Below w.heap.size w w'
 int : ∀ w, Calls Tryz.prog 183 #[.string W] w fun e w' => e = .returned (.tuple #[.bool M, .string D, .bool I]) ∧ Below w.heap.size w w'
 form : ∀ w, Calls Tryz.prog 184 #[.string B] w fun e w' => e = .returned (.bool fb) ∧ Below w.heap.size w w'
theorem cuts_of (s : ByteArray) (hs : s.size ≤ 1000000) : Cuts s (cW s) (cB s) (iD (cW s)) (cS s) (iM (cW s)) (iB (cW s)) (fB (cB s)) := {
 cut := fun w hL => l_cut w s (by omega) hL
 int := fun w => f_Integer w (cW s) (by have := cW_size s; omega)
 form := fun w => l_form w (cB s) (by have := cB_size s; omega) }
theorem fp_bad (w : World) (s W B D : ByteArray) (S M I fb : Bool) (HL : Hid (Lay w)) (HC : Cuts s W B D S M I fb)
 (h : (I && (!S || (decide (D ≠ ⟨#[48]⟩) && fb && decide (B ≠ ⟨#[48]⟩) && decide (B ≠ ⟨#[49]⟩)))) = false) :
 Calls Tryz.prog 117 #[.string s] w fun e w' => e = .returned (.tuple #[.agg #[.bool false, .slice none 0 0, .slice none 0 0], .int .i64 3]) ∧ Below w.heap.size w w' := by
 have key : (I = false) ∨ (I = true ∧ S = true ∧ (D = ⟨#[48]⟩ ∨ (¬ D = ⟨#[48]⟩ ∧ (fb = false ∨ (fb = true ∧ (B = ⟨#[48]⟩ ∨ (¬ B = ⟨#[48]⟩ ∧ B = ⟨#[49]⟩))))))) := by
  by_cases h1 : D = ⟨#[48]⟩ <;> by_cases h2 : B = ⟨#[48]⟩ <;> by_cases h3 : B = ⟨#[49]⟩ <;> cases I <;> cases S <;> cases fb <;> simp [h1, h2, h3] at h ⊢
 have HK := hid HC
 clear HC h
 have t0 := hid (Blk.new w #[.bool false, .slice none 0 0, .slice none 0 0] 94)
 have t1 := hid ((Below.refl w.heap.size w).alloc (Nat.le_refl _) (.cells #[.bool false, .slice none 0 0, .slice none 0 0] 94))
 have t2 := hid (HL.out.call t1.out)
 rcases key with rfl | ⟨rfl, rfl, rfl | ⟨h1, rfl | ⟨rfl, rfl | ⟨h2, rfl⟩⟩⟩⟩
 ·cases S
  all_goals
   go_enter Tryz.func117, Tryz.ntmps117
   go_wp2_with (first
    | (go_at_call 182; refine (HK.out.cut _ t2.out).mono ?_; rintro e w1 ⟨rfl, hb1⟩
       have x1 := hid (t0.out.call hb1)
       have y1 := hid (bnext t1.out hb1)
       clear hb1)
    | (go_at_call 183; refine (HK.out.int _).mono ?_; rintro e w2 ⟨rfl, hb2⟩
       have x2 := hid (x1.out.call hb2)
       have y2 := hid (bnext y1.out hb2)
       clear hb2
       have d0 := x2.out.cell 0
       have d1 := x2.out.cell 1
       have d2 := x2.out.cell 2
       have e0 := x2.out.free 0
       have e1 := x2.out.free 1
       have e2 := x2.out.free 2
       simp at d0 d1 d2)
    | (go_at_call 184; refine (HK.out.form _).mono ?_; rintro e w3 ⟨rfl, hb3⟩
       have x3 := hid (x2.out.call hb3)
       have y3 := hid (bnext y2.out hb3)
       clear hb3 d0 d1 d2 e0 e1 e2
       have d0 := x3.out.cell 0
       have d1 := x3.out.cell 1
       have d2 := x3.out.cell 2
       have e0 := x3.out.free 0
       have e1 := x3.out.free 1
       have e2 := x3.out.free 2
       simp at d0 d1 d2)
    | fail)
   first
    | (obtain ⟨s1, s2⟩ := set3 x3.out false none none 0 0 0 0
       have f0 := s2.cell 0
       have f1 := s2.cell 1
       have f2 := s2.cell 2
       simp at f0 f1 f2
       refine bodyPost_ret (v := .tuple #[.agg #[.bool false, .slice none 0 0, .slice none 0 0], .int .i64 3]) (by simp [results, Tryz.results117, go_sem, f0, f1, f2]) rfl ⟨rfl, ?_⟩
       exact ((y3.out.setCell (Nat.le_refl _) _).setCell (Nat.le_refl _) _).setCell (Nat.le_refl _) _)
    | (obtain ⟨s1, s2⟩ := set3 x2.out false none none 0 0 0 0
       have f0 := s2.cell 0
       have f1 := s2.cell 1
       have f2 := s2.cell 2
       simp at f0 f1 f2
       refine bodyPost_ret (v := .tuple #[.agg #[.bool false, .slice none 0 0, .slice none 0 0], .int .i64 3]) (by simp [results, Tryz.results117, go_sem, f0, f1, f2]) rfl ⟨rfl, ?_⟩
       exact ((y2.out.setCell (Nat.le_refl _) _).setCell (Nat.le_refl _) _).setCell (Nat.le_refl _) _)
 all_goals (try have i1 := ne_lit (l := [48]) h1)
 all_goals (try have i2 := ne_lit (l := [48]) h2)
 all_goals
  go_enter Tryz.func117, Tryz.ntmps117
  go_wp2_with (first
   | (go_at_call 182; refine (HK.out.cut _ t2.out).mono ?_; rintro e w1 ⟨rfl, hb1⟩
      have x1 := hid (t0.out.call hb1)
      have y1 := hid (bnext t1.out hb1)
      clear hb1)
   | (go_at_call 183; refine (HK.out.int _).mono ?_; rintro e w2 ⟨rfl, hb2⟩
      have x2 := hid (x1.out.call hb2)
      have y2 := hid (bnext y1.out hb2)
      clear hb2
      have d0 := x2.out.cell 0
      have d1 := x2.out.cell 1
      have d2 := x2.out.cell 2
      have e0 := x2.out.free 0
      have e1 := x2.out.free 1
      have e2 := x2.out.free 2
      simp at d0 d1 d2)
   | (go_at_call 184; refine (HK.out.form _).mono ?_; rintro e w3 ⟨rfl, hb3⟩
      have x3 := hid (x2.out.call hb3)
      have y3 := hid (bnext y2.out hb3)
      clear hb3 d0 d1 d2 e0 e1 e2
      have d0 := x3.out.cell 0
      have d1 := x3.out.cell 1
      have d2 := x3.out.cell 2
      have e0 := x3.out.free 0
      have e1 := x3.out.free 1
      have e2 := x3.out.free 2
      simp at d0 d1 d2)
   | fail)
  first
   | (obtain ⟨s1, s2⟩ := set3 x3.out false none none 0 0 0 0
      have f0 := s2.cell 0
      have f1 := s2.cell 1
      have f2 := s2.cell 2
      simp at f0 f1 f2
      refine bodyPost_ret (v := .tuple #[.agg #[.bool false, .slice none 0 0, .slice none 0 0], .int .i64 3]) (by simp [results, Tryz.results117, go_sem, f0, f1, f2]) rfl ⟨rfl, ?_⟩
      exact ((y3.out.setCell (Nat.le_refl _) _).setCell (Nat.le_refl _) _).setCell (Nat.le_refl _) _)
   | (obtain ⟨s1, s2⟩ := set3 x2.out false none none 0 0 0 0
      have f0 := s2.cell 0
      have f1 := s2.cell 1
      have f2 := s2.cell 2
      simp at f0 f1 f2
      refine bodyPost_ret (v := .tuple #[.agg #[.bool false, .slice none 0 0, .slice none 0 0], .int .i64 3]) (by simp [results, Tryz.results117, go_sem, f0, f1, f2]) rfl ⟨rfl, ?_⟩
      exact ((y2.out.setCell (Nat.le_refl _) _).setCell (Nat.le_refl _) _).setCell (Nat.le_refl _) _)
theorem fp_long (w : World) (s W B D : ByteArray) (S M fb : Bool) (HL : Hid (Lay w)) (HC : Cuts s W B D S M true fb)
 (h : S = false ∨ (S = true ∧ ¬ D = ⟨#[48]⟩ ∧ ¬ B = ⟨#[48]⟩ ∧ ¬ B = ⟨#[49]⟩ ∧ fb = true)) (hl : 4000 < D.size ∨ (¬ 4000 < D.size ∧ S = true ∧ 4000 < B.size)) :
 Calls Tryz.prog 117 #[.string s] w fun e w' => e = .returned (.tuple #[.agg #[.bool false, .slice none 0 0, .slice none 0 0], .int .i64 5]) ∧ Below w.heap.size w w' := by
 have HK := hid HC
 clear HC
 have t0 := hid (Blk.new w #[.bool false, .slice none 0 0, .slice none 0 0] 94)
 have t1 := hid ((Below.refl w.heap.size w).alloc (Nat.le_refl _) (.cells #[.bool false, .slice none 0 0, .slice none 0 0] 94))
 have t2 := hid (HL.out.call t1.out)
 rcases h with rfl | ⟨rfl, h1, h2, h3, rfl⟩
 ·have q0 : decide ((4000 : Int) < (D.size : Int)) = true := by
   rcases hl with hl | ⟨_, hl, _⟩
   ·simp; omega
   ·cases hl
  clear hl
  go_enter Tryz.func117, Tryz.ntmps117
  go_wp2_with (first
   | (go_at_call 182; refine (HK.out.cut _ t2.out).mono ?_; rintro e w1 ⟨rfl, hb1⟩
      have x1 := hid (t0.out.call hb1)
      have y1 := hid (bnext t1.out hb1)
      clear hb1)
   | (go_at_call 183; refine (HK.out.int _).mono ?_; rintro e w2 ⟨rfl, hb2⟩
      have x2 := hid (x1.out.call hb2)
      have y2 := hid (bnext y1.out hb2)
      clear hb2
      have d0 := x2.out.cell 0
      have d1 := x2.out.cell 1
      have d2 := x2.out.cell 2
      have e0 := x2.out.free 0
      have e1 := x2.out.free 1
      have e2 := x2.out.free 2
      simp at d0 d1 d2)
   | (go_at_call 184; refine (HK.out.form _).mono ?_; rintro e w3 ⟨rfl, hb3⟩
      have x3 := hid (x2.out.call hb3)
      have y3 := hid (bnext y2.out hb3)
      clear hb3 d0 d1 d2 e0 e1 e2
      have d0 := x3.out.cell 0
      have d1 := x3.out.cell 1
      have d2 := x3.out.cell 2
      have e0 := x3.out.free 0
      have e1 := x3.out.free 1
      have e2 := x3.out.free 2
      simp at d0 d1 d2)
   | fail)
  first
   | (obtain ⟨s1, s2⟩ := set3 x3.out false none none 0 0 0 0
      have f0 := s2.cell 0
      have f1 := s2.cell 1
      have f2 := s2.cell 2
      simp at f0 f1 f2
      refine bodyPost_ret (v := .tuple #[.agg #[.bool false, .slice none 0 0, .slice none 0 0], .int .i64 5]) (by simp [results, Tryz.results117, go_sem, f0, f1, f2]) rfl ⟨rfl, ?_⟩
      exact ((y3.out.setCell (Nat.le_refl _) _).setCell (Nat.le_refl _) _).setCell (Nat.le_refl _) _)
   | (obtain ⟨s1, s2⟩ := set3 x2.out false none none 0 0 0 0
      have f0 := s2.cell 0
      have f1 := s2.cell 1
      have f2 := s2.cell 2
      simp at f0 f1 f2
      refine bodyPost_ret (v := .tuple #[.agg #[.bool false, .slice none 0 0, .slice none 0 0], .int .i64 5]) (by simp [results, Tryz.results117, go_sem, f0, f1, f2]) rfl ⟨rfl, ?_⟩
      exact ((y2.out.setCell (Nat.le_refl _) _).setCell (Nat.le_refl _) _).setCell (Nat.le_refl _) _)
 ·have i1 := ne_lit (l := [48]) h1
  have i2 := ne_lit (l := [48]) h2
  have i3 := ne_lit (l := [49]) h3
  rcases hl with hl | ⟨hl, -, hl2⟩
  ·have q0 : decide ((4000 : Int) < (D.size : Int)) = true := by simp; omega
   clear hl
   go_enter Tryz.func117, Tryz.ntmps117
   go_wp2_with (first
    | (go_at_call 182; refine (HK.out.cut _ t2.out).mono ?_; rintro e w1 ⟨rfl, hb1⟩
       have x1 := hid (t0.out.call hb1)
       have y1 := hid (bnext t1.out hb1)
       clear hb1)
    | (go_at_call 183; refine (HK.out.int _).mono ?_; rintro e w2 ⟨rfl, hb2⟩
       have x2 := hid (x1.out.call hb2)
       have y2 := hid (bnext y1.out hb2)
       clear hb2
       have d0 := x2.out.cell 0
       have d1 := x2.out.cell 1
       have d2 := x2.out.cell 2
       have e0 := x2.out.free 0
       have e1 := x2.out.free 1
       have e2 := x2.out.free 2
       simp at d0 d1 d2)
    | (go_at_call 184; refine (HK.out.form _).mono ?_; rintro e w3 ⟨rfl, hb3⟩
       have x3 := hid (x2.out.call hb3)
       have y3 := hid (bnext y2.out hb3)
       clear hb3 d0 d1 d2 e0 e1 e2
       have d0 := x3.out.cell 0
       have d1 := x3.out.cell 1
       have d2 := x3.out.cell 2
       have e0 := x3.out.free 0
       have e1 := x3.out.free 1
       have e2 := x3.out.free 2
       simp at d0 d1 d2)
    | fail)
   first
    | (obtain ⟨s1, s2⟩ := set3 x3.out false none none 0 0 0 0
       have f0 := s2.cell 0
       have f1 := s2.cell 1
       have f2 := s2.cell 2
       simp at f0 f1 f2
       refine bodyPost_ret (v := .tuple #[.agg #[.bool false, .slice none 0 0, .slice none 0 0], .int .i64 5]) (by simp [results, Tryz.results117, go_sem, f0, f1, f2]) rfl ⟨rfl, ?_⟩
       exact ((y3.out.setCell (Nat.le_refl _) _).setCell (Nat.le_refl _) _).setCell (Nat.le_refl _) _)
    | (obtain ⟨s1, s2⟩ := set3 x2.out false none none 0 0 0 0
       have f0 := s2.cell 0
       have f1 := s2.cell 1
       have f2 := s2.cell 2
       simp at f0 f1 f2
       refine bodyPost_ret (v := .tuple #[.agg #[.bool false, .slice none 0 0, .slice none 0 0], .int .i64 5]) (by simp [results, Tryz.results117, go_sem, f0, f1, f2]) rfl ⟨rfl, ?_⟩
       exact ((y2.out.setCell (Nat.le_refl _) _).setCell (Nat.le_refl _) _).setCell (Nat.le_refl _) _)
  ·have q0 : decide ((4000 : Int) < (D.size : Int)) = false := by simp; omega
   have q1 : decide ((4000 : Int) < (B.size : Int)) = true := by simp; omega
   clear hl hl2
   go_enter Tryz.func117, Tryz.ntmps117
   go_wp2_with (first
    | (go_at_call 182; refine (HK.out.cut _ t2.out).mono ?_; rintro e w1 ⟨rfl, hb1⟩
       have x1 := hid (t0.out.call hb1)
       have y1 := hid (bnext t1.out hb1)
       clear hb1)
    | (go_at_call 183; refine (HK.out.int _).mono ?_; rintro e w2 ⟨rfl, hb2⟩
       have x2 := hid (x1.out.call hb2)
       have y2 := hid (bnext y1.out hb2)
       clear hb2
       have d0 := x2.out.cell 0
       have d1 := x2.out.cell 1
       have d2 := x2.out.cell 2
       have e0 := x2.out.free 0
       have e1 := x2.out.free 1
       have e2 := x2.out.free 2
       simp at d0 d1 d2)
    | (go_at_call 184; refine (HK.out.form _).mono ?_; rintro e w3 ⟨rfl, hb3⟩
       have x3 := hid (x2.out.call hb3)
       have y3 := hid (bnext y2.out hb3)
       clear hb3 d0 d1 d2 e0 e1 e2
       have d0 := x3.out.cell 0
       have d1 := x3.out.cell 1
       have d2 := x3.out.cell 2
       have e0 := x3.out.free 0
       have e1 := x3.out.free 1
       have e2 := x3.out.free 2
       simp at d0 d1 d2)
    | fail)
   first
    | (obtain ⟨s1, s2⟩ := set3 x3.out false none none 0 0 0 0
       have f0 := s2.cell 0
       have f1 := s2.cell 1
       have f2 := s2.cell 2
       simp at f0 f1 f2
       refine bodyPost_ret (v := .tuple #[.agg #[.bool false, .slice none 0 0, .slice none 0 0], .int .i64 5]) (by simp [results, Tryz.results117, go_sem, f0, f1, f2]) rfl ⟨rfl, ?_⟩
       exact ((y3.out.setCell (Nat.le_refl _) _).setCell (Nat.le_refl _) _).setCell (Nat.le_refl _) _)
    | (obtain ⟨s1, s2⟩ := set3 x2.out false none none 0 0 0 0
       have f0 := s2.cell 0
       have f1 := s2.cell 1
       have f2 := s2.cell 2
       simp at f0 f1 f2
       refine bodyPost_ret (v := .tuple #[.agg #[.bool false, .slice none 0 0, .slice none 0 0], .int .i64 5]) (by simp [results, Tryz.results117, go_sem, f0, f1, f2]) rfl ⟨rfl, ?_⟩
       exact ((y2.out.setCell (Nat.le_refl _) _).setCell (Nat.le_refl _) _).setCell (Nat.le_refl _) _)
theorem bN_limbs {s : ByteArray} (h : allDig s.data.toList) (hs : ¬ 4000 < s.size) : (limbs (bN s)).length ≤ 1000000 := by
 refine dv_limbs h ?_
 have : s.data.toList.length = s.size := Array.length_toList
 omega
theorem qD_false {s : ByteArray} (h : cS s = false) : qD s = ⟨#[49]⟩ := by simp [qD, h]
theorem qD_true {s : ByteArray} (h : cS s = true) : qD s = cB s := by simp [qD, h]
def IsF (w : World) (v : Value) (m : Bool) (n d : Nat) : Prop := ∃ N D, v = .agg #[.bool m, N, D] ∧ IsN .u64 w N n ∧ IsN .u64 w D d
def RetF (x : Int) (m : Bool) (n d : Nat) (e : Ending) (w' : World) : Prop := ∃ v, e = .returned (.tuple #[v, .int .i64 x]) ∧ (x = 0 → IsF w' v m n d) ∧ (x ≠ 0 → v = .agg #[.bool false, .slice none 0 0, .slice none 0 0])
theorem RetF.err {x : Int} {m : Bool} {n d : Nat} {w' : World} (h : x ≠ 0) : RetF x m n d (.returned (.tuple #[.agg #[.bool false, .slice none 0 0, .slice none 0 0], .int .i64 x])) w' := ⟨_, rfl, fun e => absurd e h, fun _ => rfl⟩
theorem fp_frac (w : World) (s W B D : ByteArray) (M : Bool) (HL : Hid (Lay w)) (HC : Cuts s W B D true M true true)
 (h1 : ¬ D = ⟨#[48]⟩) (h2 : ¬ B = ⟨#[48]⟩) (h3 : ¬ B = ⟨#[49]⟩) (hl1 : ¬ 4000 < D.size) (hl2 : ¬ 4000 < B.size) (hd1 : allDig D.data.toList) (hd2 : allDig B.data.toList) :
 Calls Tryz.prog 117 #[.string s] w fun e w' => RetF (if Nat.gcd (bN D) (bN B) = 1 then 0 else 3) M (bN D) (bN B) e w' ∧ Below w.heap.size w w' := by
 obtain ⟨xc, hxc⟩ : ∃ x : Int, (if Nat.gcd (bN D) (bN B) = 1 then 0 else 3) = x := ⟨_, rfl⟩
 rw [hxc]
 have HXC := hid hxc
 clear hxc
 have HK := hid HC
 clear HC
 have t0 := hid (Blk.new w #[.bool false, .slice none 0 0, .slice none 0 0] 94)
 have t1 := hid ((Below.refl w.heap.size w).alloc (Nat.le_refl _) (.cells #[.bool false, .slice none 0 0, .slice none 0 0] 94))
 have t2 := hid (HL.out.call t1.out)
 have i1 := ne_lit (l := [48]) h1
 have i2 := ne_lit (l := [48]) h2
 have i3 := ne_lit (l := [49]) h3
 have q0 : decide ((4000 : Int) < (D.size : Int)) = false := by simp; omega
 have q1 : decide ((4000 : Int) < (B.size : Int)) = false := by simp; omega
 have L1 := hid (bN_limbs hd1 hl1)
 have L2 := hid (bN_limbs hd2 hl2)
 have P1 := fun W => hid (l_Parse W D hd1 (by omega))
 have P2 := fun W => hid (l_Parse W B hd2 (by omega))
 clear hd1 hd2 h1 h2 h3 hl1 hl2
 go_enter Tryz.func117, Tryz.ntmps117
 go_wp2_with (first
  | (go_at_call 182; refine (HK.out.cut _ t2.out).mono ?_; rintro e w1 ⟨rfl, hb1⟩
     have x1 := hid (t0.out.call hb1)
     have y1 := hid (bnext t1.out hb1)
     clear hb1)
  | (go_at_call 183; refine (HK.out.int _).mono ?_; rintro e w2 ⟨rfl, hb2⟩
     have x2 := hid (x1.out.call hb2)
     have y2 := hid (bnext y1.out hb2)
     clear hb2)
  | (go_at_call 184; refine (HK.out.form _).mono ?_; rintro e w3 ⟨rfl, hb3⟩
     have x3 := hid (x2.out.call hb3)
     have y3 := hid (bnext y2.out hb3)
     clear hb3)
  | fail)
 refine (P1 _).out.mono ?_; rintro e w4 ⟨⟨v4, rfl, hv4⟩, hb4⟩
 have x4 := hid (x3.out.call hb4)
 have y4 := hid (bnext y3.out hb4)
 have N4 := hid hv4
 clear hb4 hv4
 obtain ⟨a4, c4, rfl, _⟩ := N4.out.openI
 obtain ⟨k1, hk1⟩ : ∃ k, (limbs (dv D.data.toList)).length = k := ⟨_, rfl⟩
 rw [hk1] at N4 ⊢
 clear P1
 go_wp2_with fail
 refine (P2 _).out.mono ?_; rintro e w5 ⟨⟨v5, rfl, hv5⟩, hb5⟩
 have x5 := hid (x4.out.call hb5)
 have y5 := hid (bnext y4.out hb5)
 have N5 := hid (N4.out.call hb5)
 have D5 := hid hv5
 clear hb5 hv5
 obtain ⟨a5, c5, rfl, _⟩ := D5.out.openI
 obtain ⟨k2, hk2⟩ : ∃ k, (limbs (dv B.data.toList)).length = k := ⟨_, rfl⟩
 rw [hk2] at D5 ⊢
 clear P2
 go_wp2_with fail
 have z5 := hid (Blk.new w5 #[.bool M, .slice a4 k1 c4, .slice a5 k2 c5] 94)
 have b5 := hid ((Below.refl w5.heap.size w5).alloc (Nat.le_refl _) (.cells #[.bool M, .slice a4 k1 c4, .slice a5 k2 c5] 94))
 refine (l_Gcd _ _ _ _ _ (N5.out.call b5.out) (D5.out.call b5.out) L1.out L2.out).mono ?_
 rintro e w6 ⟨⟨v6, rfl, hv6⟩, hb6⟩
 have z6 := hid (z5.out.call hb6)
 have x6 := hid ((x5.out.call b5.out).call hb6)
 have y6 := hid (bnext (bnext y5.out b5.out) hb6)
 have N6 := hid ((N5.out.call b5.out).call hb6)
 have D6 := hid ((D5.out.call b5.out).call hb6)
 have G6 := hid hv6
 clear hb6 hv6
 obtain ⟨a6, c6, rfl, _⟩ := G6.out.openI
 go_wp2_with fail
 refine (l_One _ _ _ G6.out).mono ?_
 rintro e w7 ⟨rfl, rfl⟩
 by_cases hG : Nat.gcd (bN D) (bN B) = 1
 ·have hO : isO (Nat.gcd (dv D.data.toList) (dv B.data.toList)) = true := isO_iff.2 hG
  have X0 := hid (show xc = 0 from by rw [← HXC.out, if_pos hG])
  rw [hO]
  have d0 := x6.out.cell 0
  have d1 := x6.out.cell 1
  have d2 := x6.out.cell 2
  have e0 := x6.out.free 0
  have e1 := x6.out.free 1
  have e2 := x6.out.free 2
  have g0 := z6.out.cell 0
  have g1 := z6.out.cell 1
  have g2 := z6.out.cell 2
  simp at d0 d1 d2 g0 g1 g2
  clear hO
  have HG := hid hG
  clear hG
  go_wp2_with fail
  obtain ⟨s1, s2⟩ := set3 x6.out M a4 a5 k1 c4 k2 c5
  have f0 := s2.cell 0
  have f1 := s2.cell 1
  have f2 := s2.cell 2
  simp at f0 f1 f2
  refine bodyPost_ret (v := .tuple #[.agg #[.bool M, .slice a4 k1 c4, .slice a5 k2 c5], .int .i64 0]) (by simp [results, Tryz.results117, go_sem, f0, f1, f2]) rfl ⟨by rw [X0.out]; exact ⟨_, rfl, fun _ => ⟨_, _, rfl, s1 _ _ _ N6.out, s1 _ _ _ D6.out⟩, fun h => absurd rfl h⟩, ?_⟩
  exact ((y6.out.setCell (Nat.le_refl _) _).setCell (Nat.le_refl _) _).setCell (Nat.le_refl _) _
 ·have hO : isO (Nat.gcd (dv D.data.toList) (dv B.data.toList)) = false := by
   rw [Bool.eq_false_iff]
   exact fun h => hG (isO_iff.1 h)
  have X0 := hid (show xc = 3 from by rw [← HXC.out, if_neg hG])
  rw [hO]
  have d0 := x6.out.cell 0
  have d1 := x6.out.cell 1
  have d2 := x6.out.cell 2
  have e0 := x6.out.free 0
  have e1 := x6.out.free 1
  have e2 := x6.out.free 2
  simp at d0 d1 d2
  clear hO
  have HG := hid hG
  clear hG
  go_wp2_with fail
  obtain ⟨s1, s2⟩ := set3 x6.out false none none 0 0 0 0
  have f0 := s2.cell 0
  have f1 := s2.cell 1
  have f2 := s2.cell 2
  simp at f0 f1 f2
  refine bodyPost_ret (v := .tuple #[.agg #[.bool false, .slice none 0 0, .slice none 0 0], .int .i64 3]) (by simp [results, Tryz.results117, go_sem, f0, f1, f2]) rfl ⟨by rw [X0.out]; exact RetF.err (by decide), ?_⟩
  exact ((y6.out.setCell (Nat.le_refl _) _).setCell (Nat.le_refl _) _).setCell (Nat.le_refl _) _
theorem fp_int (w : World) (s W B D : ByteArray) (M fb : Bool) (HL : Hid (Lay w)) (HC : Cuts s W B D false M true fb)
 (hl1 : ¬ 4000 < D.size) (hd1 : allDig D.data.toList) :
 Calls Tryz.prog 117 #[.string s] w fun e w' => RetF 0 M (bN D) 1 e w' ∧ Below w.heap.size w w' := by
 have HK := hid HC
 clear HC
 have t0 := hid (Blk.new w #[.bool false, .slice none 0 0, .slice none 0 0] 94)
 have t1 := hid ((Below.refl w.heap.size w).alloc (Nat.le_refl _) (.cells #[.bool false, .slice none 0 0, .slice none 0 0] 94))
 have t2 := hid (HL.out.call t1.out)
 have q0 : decide ((4000 : Int) < (D.size : Int)) = false := by simp; omega
 have P1 := fun W => hid (l_Parse W D hd1 (by omega))
 have P2 := fun W => hid (l_Parse W ⟨#[49]⟩ (by intro b hb; simp at hb; subst hb; rfl) (Nat.succ_le_succ (Nat.zero_le _)))
 clear hd1 hl1
 go_enter Tryz.func117, Tryz.ntmps117
 go_wp2_with (first
  | (go_at_call 182; refine (HK.out.cut _ t2.out).mono ?_; rintro e w1 ⟨rfl, hb1⟩
     have x1 := hid (t0.out.call hb1)
     have y1 := hid (bnext t1.out hb1)
     clear hb1)
  | (go_at_call 183; refine (HK.out.int _).mono ?_; rintro e w2 ⟨rfl, hb2⟩
     have x2 := hid (x1.out.call hb2)
     have y2 := hid (bnext y1.out hb2)
     clear hb2)
  | fail)
 refine (P1 _).out.mono ?_; rintro e w4 ⟨⟨v4, rfl, hv4⟩, hb4⟩
 have x4 := hid (x2.out.call hb4)
 have y4 := hid (bnext y2.out hb4)
 have N4 := hid hv4
 clear hb4 hv4
 obtain ⟨a4, c4, rfl, _⟩ := N4.out.openI
 obtain ⟨k1, hk1⟩ : ∃ k, (limbs (dv D.data.toList)).length = k := ⟨_, rfl⟩
 rw [hk1] at N4 ⊢
 clear P1
 go_wp2_with fail
 refine (P2 _).out.mono ?_; rintro e w5 ⟨⟨v5, rfl, hv5⟩, hb5⟩
 have x5 := hid (x4.out.call hb5)
 have y5 := hid (bnext y4.out hb5)
 have N5 := hid (N4.out.call hb5)
 have D5 := hid (show IsN .u64 w5 v5 1 from hv5)
 clear hb5 hv5
 obtain ⟨a5, c5, rfl, _⟩ := D5.out.openI
 obtain ⟨k2, hk2⟩ : ∃ k, (limbs 1).length = k := ⟨_, rfl⟩
 rw [hk2] at D5 ⊢
 clear P2
 have z6 := hid (Blk.new w5 #[.bool M, .slice a4 k1 c4, .slice a5 k2 c5] 94)
 have b5 := hid ((Below.refl w5.heap.size w5).alloc (Nat.le_refl _) (.cells #[.bool M, .slice a4 k1 c4, .slice a5 k2 c5] 94))
 have x6 := hid (x5.out.call b5.out)
 have y6 := hid (bnext y5.out b5.out)
 have N6 := hid (N5.out.call b5.out)
 have D6 := hid (D5.out.call b5.out)
 have d0 := x6.out.cell 0
 have d1 := x6.out.cell 1
 have d2 := x6.out.cell 2
 have e0 := x6.out.free 0
 have e1 := x6.out.free 1
 have e2 := x6.out.free 2
 have g0 := z6.out.cell 0
 have g1 := z6.out.cell 1
 have g2 := z6.out.cell 2
 simp at d0 d1 d2 g0 g1 g2
 go_wp2_with fail
 obtain ⟨s1, s2⟩ := set3 x6.out M a4 a5 k1 c4 k2 c5
 have f0 := s2.cell 0
 have f1 := s2.cell 1
 have f2 := s2.cell 2
 simp at f0 f1 f2
 refine bodyPost_ret (v := .tuple #[.agg #[.bool M, .slice a4 k1 c4, .slice a5 k2 c5], .int .i64 0]) (by simp [results, Tryz.results117, go_sem, f0, f1, f2]) rfl ⟨⟨_, rfl, fun _ => ⟨_, _, rfl, s1 _ _ _ N6.out, s1 _ _ _ D6.out⟩, fun h => absurd rfl h⟩, ?_⟩
 exact ((y6.out.setCell (Nat.le_refl _) _).setCell (Nat.le_refl _) _).setCell (Nat.le_refl _) _
theorem f_Parse (w : World) (s : ByteArray) (hs : s.size ≤ 1000000) (hL : Lay w) :
 Calls Tryz.prog 117 #[.string s] w fun e w' => RetF (qE s) (iM (cW s)) (bN (iD (cW s))) (bN (qD s)) e w' ∧ Below w.heap.size w w' := by
 have HC := cuts_of s hs
 have HL := hid hL
 by_cases hq : qB s = true
 ·have hi := qB_whole hq
  rw [hi] at HC
  have hdD := fB_dig (iB_form hi)
  have hcS : cS s = false ∨ (cS s = true ∧ ¬ iD (cW s) = ⟨#[48]⟩ ∧ ¬ cB s = ⟨#[48]⟩ ∧ ¬ cB s = ⟨#[49]⟩ ∧ fB (cB s) = true) := by
   have hq' := hq
   unfold qB at hq'
   simp only [Bool.and_eq_true, Bool.or_eq_true, Bool.not_eq_true', decide_eq_true_eq] at hq'
   rcases hq'.2 with h | h
   ·exact .inl h
   ·cases hc : cS s
    ·exact .inl rfl
    ·exact .inr ⟨rfl, h.1.1.1, h.1.2, h.2, h.1.1.2⟩
  by_cases hl : qL s = true
  ·have e : qE s = 5 := by simp [qE, hq, hl]
   rw [e]
   unfold qL at hl
   simp only [Bool.or_eq_true, decide_eq_true_eq] at hl
   refine (fp_long w s _ _ _ _ _ _ HL HC hcS ?_).mono ?_
   ·by_cases h4 : 4000 < (iD (cW s)).size
    ·exact .inl h4
    ·refine .inr ⟨h4, ?_⟩
     rcases hcS with hc | ⟨hc, -⟩
     ·rw [qD_false hc] at hl
      exact absurd (hl.resolve_left h4) (by decide)
     ·rw [qD_true hc] at hl
      exact ⟨hc, hl.resolve_left h4⟩
   ·rintro e w' ⟨rfl, hb⟩
    exact ⟨RetF.err (by decide), hb⟩
  ·have hl' : qL s = false := by simpa using hl
   have hl1 : ¬ 4000 < (iD (cW s)).size ∧ ¬ 4000 < (qD s).size := by
    unfold qL at hl'
    simpa using hl'
   rcases hcS with hc | ⟨hc, h1, h2, h3, h4⟩
   ·rw [hc] at HC
    have e : qE s = 0 := by simp [qE, hq, hl', qG, hc]
    rw [e, qD_false hc]
    exact fp_int w s _ _ _ _ _ HL HC hl1.1 hdD
   ·rw [hc, h4] at HC
    have hl2 := hl1.2
    rw [qD_true hc] at hl2
    have e : qE s = if Nat.gcd (bN (iD (cW s))) (bN (cB s)) = 1 then 0 else 3 := by
     simp only [qE, hq, hl', qG, hc, qD_true hc]
     by_cases hg : Nat.gcd (bN (iD (cW s))) (bN (cB s)) = 1 <;> simp [hg]
    rw [e, qD_true hc]
    exact fp_frac w s _ _ _ _ HL HC h1 h2 h3 hl1.1 hl2 hdD (fB_dig h4)
 ·have hq' : qB s = false := by simpa using hq
  have e : qE s = 3 := by simp [qE, hq']
  rw [e]
  refine (fp_bad w s _ _ _ _ _ _ _ HL HC hq').mono ?_
  rintro e w' ⟨rfl, hb⟩
  exact ⟨RetF.err (by decide), hb⟩
theorem RetF.parts {x : Int} {m : Bool} {n d : Nat} {e : Ending} {w' : World} (h : RetF x m n d e w') : ∃ (b : Bool) (a1 a2 : Option Addr) (n1 c1 n2 c2 : Nat), e = .returned (.tuple #[.agg #[.bool b, .slice a1 n1 c1, .slice a2 n2 c2], .int .i64 x]) := by
 obtain ⟨v, rfl, h1, h2⟩ := h
 by_cases hx : x = 0
 ·obtain ⟨N, D, rfl, hN, hD⟩ := h1 hx
  obtain ⟨a1, c1, rfl, _⟩ := hN.openI
  obtain ⟨a2, c2, rfl, _⟩ := hD.openI
  exact ⟨_, _, _, _, _, _, _, rfl⟩
 ·rw [h2 hx]
  exact ⟨_, _, _, _, _, _, _, rfl⟩
theorem q_Check (w : World) (s : ByteArray) (hs : s.size ≤ 1000000) (hL : Lay w) :
 Calls Tryz.prog 289 #[.string s] w fun e w' => e = .returned (.int .i64 (qE s)) ∧ Below w.heap.size w w' := by
 have HC := hid (f_Parse w s hs hL)
 go_enter Tryz.func289, Tryz.ntmps289
 go_wp2_with fail
 refine HC.out.mono ?_
 rintro e w1 ⟨hr, hb⟩
 obtain ⟨b, a1, a2, n1, c1, n2, c2, rfl⟩ := hr.parts
 have HB := hid hb
 clear hr hb
 go_wp2_with fail
 go_ret
 exact ⟨rfl, HB.out.alloc HB.out.size _⟩
def pW (s : ByteArray) : ByteArray := if qE s = 0 then cW s else ⟨#[]⟩
def pD (s : ByteArray) : ByteArray := if qE s = 0 then qD s else ⟨#[]⟩
theorem q_Parts (w : World) (s : ByteArray) (hs : s.size ≤ 1000000) (hL : Lay w) :
 Calls Tryz.prog 256 #[.string s] w fun e w' => e = .returned (.tuple #[.string (pW s), .string (pD s), .int .i64 (qE s)]) ∧ Below w.heap.size w w' := by
 have HC := hid (q_Check w s hs hL)
 have HU := hid (cuts_of s hs)
 have HL := hid hL
 clear hL
 by_cases he : qE s = 0
 ·have e1 : pW s = cW s := if_pos he
  have e2 : pD s = qD s := if_pos he
  rw [e1, e2, he]
  rw [he] at HC
  clear e1 e2
  obtain ⟨W, hW⟩ : ∃ W, cW s = W := ⟨_, rfl⟩
  obtain ⟨B, hB⟩ : ∃ B, cB s = B := ⟨_, rfl⟩
  rw [hW, hB] at HU
  rw [hW]
  cases hc : cS s
  ·rw [qD_false hc]
   rw [hc] at HU
   clear hW hB hc he
   go_enter Tryz.func256, Tryz.ntmps256
   go_wp2_with (first
    | (go_at_call 289; refine HC.out.mono ?_; rintro e w1 ⟨rfl, hb1⟩
       have y1 := hid hb1; clear hb1)
    | (go_at_call 182; refine (HU.out.cut _ (HL.out.call y1.out)).mono ?_; rintro e w2 ⟨rfl, hb2⟩
       have y2 := hid (bnext y1.out hb2); clear hb2)
    | fail)
   go_ret3
   exact ⟨rfl, y2.out⟩
  ·rw [qD_true hc, hB]
   rw [hc] at HU
   clear hW hB hc he
   go_enter Tryz.func256, Tryz.ntmps256
   go_wp2_with (first
    | (go_at_call 289; refine HC.out.mono ?_; rintro e w1 ⟨rfl, hb1⟩
       have y1 := hid hb1; clear hb1)
    | (go_at_call 182; refine (HU.out.cut _ (HL.out.call y1.out)).mono ?_; rintro e w2 ⟨rfl, hb2⟩
       have y2 := hid (bnext y1.out hb2); clear hb2)
    | fail)
   go_ret3
   exact ⟨rfl, y2.out⟩
 ·have e1 : pW s = ⟨#[]⟩ := if_neg he
  have e2 : pD s = ⟨#[]⟩ := if_neg he
  rw [e1, e2]
  have q0 : (qE s != 0) = true := by simpa using he
  obtain ⟨x, hx⟩ : ∃ x, qE s = x := ⟨_, rfl⟩
  rw [hx] at HC q0 ⊢
  clear hx he e1 e2
  have q1 : (x == 0) = false := by simpa using q0
  have q2 : ¬ x = 0 := by simpa using q0
  go_enter Tryz.func256, Tryz.ntmps256
  go_wp2_with (first
   | (go_at_call 289; refine HC.out.mono ?_; rintro e w1 ⟨rfl, hb1⟩
      have y1 := hid hb1; clear hb1)
   | fail)
  go_ret3
  exact ⟨rfl, y1.out⟩
open Go.Lib (decDigits nDigits)
theorem c_checked (w : World) (s : ByteArray) (hs : s.size ≤ 100000000) :
 Calls Tryz.prog 303 #[.string s] w fun e w' => e = .returned (.int .i64 (chkE s)) ∧ Below w.heap.size w w' := by
 have HC := hid (b_Check w s hs)
 by_cases hb : bitB s = true
 ·have e0 : bitE s = 0 := if_pos hb
  rw [e0] at HC
  by_cases hl : 256 < s.size
  ·have e1 : chkE s = 4 := by rw [chkE, if_pos hb, if_pos hl]
   have q0 : decide ((256 : Int) < (s.size : Int)) = true := by simp; omega
   rw [e1]
   clear hb hl e0 e1
   go_enter Tryz.func303, Tryz.ntmps303
   go_wp2_with fail
   refine HC.out.mono ?_; rintro e w1 ⟨rfl, hb1⟩
   go_wp2_with fail
   go_ret
   exact ⟨rfl, hb1⟩
  ·have e1 : chkE s = 0 := by rw [chkE, if_pos hb, if_neg hl]
   have q0 : decide ((256 : Int) < (s.size : Int)) = false := by simp; omega
   rw [e1]
   clear hb hl e0 e1
   go_enter Tryz.func303, Tryz.ntmps303
   go_wp2_with fail
   refine HC.out.mono ?_; rintro e w1 ⟨rfl, hb1⟩
   go_wp2_with fail
   go_ret
   exact ⟨rfl, hb1⟩
 ·have e0 : bitE s = 3 := if_neg hb
  have e1 : chkE s = 3 := if_neg hb
  rw [e0] at HC
  rw [e1]
  clear hb e0 e1
  go_enter Tryz.func303, Tryz.ntmps303
  go_wp2_with fail
  refine HC.out.mono ?_; rintro e w1 ⟨rfl, hb1⟩
  go_wp2_with fail
  go_ret
  exact ⟨rfl, hb1⟩
theorem c_plus (w : World) (s t : ByteArray) (hs : s.size ≤ 1000000) (ht : t.size ≤ 1000000) (hL : Lay w) :
 Calls Tryz.prog 315 #[.string s, .string t] w fun e w' => e = .returned (.string (natB (· + ·) s t)) ∧ Below w.heap.size w w' := by
 have P := hid (n_Add w s t hs ht hL)
 go_enter Tryz.func315, Tryz.ntmps315
 go_wp2_with fail
 refine P.out.mono ?_; rintro e w1 ⟨rfl, hb1⟩
 go_wp2_with fail
 go_ret
 exact ⟨rfl, hb1⟩
theorem c_times (w : World) (s t : ByteArray) (hs : s.size ≤ 1000000) (ht : t.size ≤ 1000000) (hL : Lay w) :
 Calls Tryz.prog 314 #[.string s, .string t] w fun e w' => e = .returned (.string (natB (· * ·) s t)) ∧ Below w.heap.size w w' := by
 have P := hid (n_Mul w s t hs ht hL)
 go_enter Tryz.func314, Tryz.ntmps314
 go_wp2_with fail
 refine P.out.mono ?_; rintro e w1 ⟨rfl, hb1⟩
 go_wp2_with fail
 go_ret
 exact ⟨rfl, hb1⟩
theorem g_plus (w : World) (s t : ByteArray) (hs : s.size ≤ 1000000) (ht : t.size ≤ 1000000) (hL : Lay w) :
 Calls Tryz.prog 206 #[.string s, .string t] w fun e w' => e = .returned (.string (natB (· + ·) s t)) ∧ Below w.heap.size w w' := by
 have P := hid (n_Add w s t hs ht hL)
 go_enter Tryz.func206, Tryz.ntmps206
 go_wp2_with fail
 refine P.out.mono ?_; rintro e w1 ⟨rfl, hb1⟩
 go_wp2_with fail
 go_ret
 exact ⟨rfl, hb1⟩
theorem g_times (w : World) (s t : ByteArray) (hs : s.size ≤ 1000000) (ht : t.size ≤ 1000000) (hL : Lay w) :
 Calls Tryz.prog 207 #[.string s, .string t] w fun e w' => e = .returned (.string (natB (· * ·) s t)) ∧ Below w.heap.size w w' := by
 have P := hid (n_Mul w s t hs ht hL)
 go_enter Tryz.func207, Tryz.ntmps207
 go_wp2_with fail
 refine P.out.mono ?_; rintro e w1 ⟨rfl, hb1⟩
 go_wp2_with fail
 go_ret
 exact ⟨rfl, hb1⟩
theorem qE_head {s W : ByteArray} (h : qE s = 0) (hW : cW s = W) : ∃ h0 : 0 < W.size, ((W[0].toNat : Int) == 45) = iM W := by
 subst hW
 have h1 := (qE_zero h).1
 have h2 := fB_dig (iB_form (qB_whole h1))
 have h3 := (formB_iff.1 (iB_form (qB_whole h1))).1
 obtain ⟨l, hl⟩ : ∃ l, (cW s).data.toList = l := ⟨_, rfl⟩
 have e : cW s = ⟨⟨l⟩⟩ := by
  apply ByteArray.ext
  rw [← hl]
 rw [e] at h2 h3 ⊢
 cases l with
 | nil => exact absurd rfl h3
 | cons b r =>
  refine ⟨Nat.succ_pos _, ?_⟩
  have e2 : (ByteArray.mk ⟨b :: r⟩)[0]'(Nat.succ_pos _) = b := rfl
  have e3 : iM ⟨⟨b :: r⟩⟩ = ((45 : UInt8) == b) := by
   simp [iM, Lib.hasPrefix, List.isPrefixOf]
  rw [e3]
  show ((((ByteArray.mk ⟨b :: r⟩)[0]'(Nat.succ_pos _)).toNat : Int) == 45) = _
  rw [e2, Bool.eq_iff_iff, beq_iff_eq, beq_iff_eq]
  constructor
  ·intro h
   apply UInt8.toNat_inj.1
   simp
   omega
  ·intro h
   rw [← h]
   rfl
def cPE (s : ByteArray) : Int := if qE s ≠ 0 then qE s else if iM (cW s) = true ∨ 0 < cmpN (cW s).data.toList (qD s).data.toList then 2 else if 1000 < (cW s).size ∨ 1000 < (qD s).size then 5 else 0
theorem c_parts (w : World) (s : ByteArray) (hs : s.size ≤ 100000) (hL : Lay w) :
 Calls Tryz.prog 302 #[.string s] w fun e w' => e = .returned (.tuple #[.string (if cPE s = 0 then cW s else ⟨#[]⟩), .string (if cPE s = 0 then qD s else ⟨#[]⟩), .int .i64 (cPE s)]) ∧ Below w.heap.size w w' := by
 have HC := hid (q_Parts w s (by omega) hL)
 have z1 := cW_size s
 have z2 := qD_size s
 have HM := fun V => hid (n_Cmp V (cW s) (qD s) (by omega) (by omega))
 by_cases he : qE s = 0
 ·have e1 : pW s = cW s := if_pos he
  have e2 : pD s = qD s := if_pos he
  rw [e1, e2, he] at HC
  have HE : cPE s = if iM (cW s) = true ∨ 0 < cmpN (cW s).data.toList (qD s).data.toList then 2 else if 1000 < (cW s).size ∨ 1000 < (qD s).size then 5 else 0 := by
   unfold cPE
   rw [if_neg (fun h => h he)]
  rw [HE]
  clear HE e1 e2
  obtain ⟨D, hD⟩ : ∃ D, qD s = D := ⟨_, rfl⟩
  obtain ⟨W, hW⟩ : ∃ W, cW s = W := ⟨_, rfl⟩
  obtain ⟨hw0, hiM⟩ := qE_head he hW
  clear he
  obtain ⟨m, hm⟩ : ∃ m, iM W = m := ⟨_, rfl⟩
  obtain ⟨c, hc⟩ : ∃ c, cmpN W.data.toList D.data.toList = c := ⟨_, rfl⟩
  rw [hD, hW] at HC HM
  rw [hm] at hiM
  rw [hc] at HM
  rw [hD, hW, hm, hc]
  clear hD hW hm hc z1 z2
  rcases m with _ | _
  ·by_cases hc2 : 0 < c
   ·have q0 : decide ((0 : Int) < c) = true := by simp; omega
    simp only [hc2, or_true, if_true, show ¬ (2 : Int) = 0 by decide, if_false]
    clear hc2
    go_enter Tryz.func302, Tryz.ntmps302
    go_wp2_with fail
    refine HC.out.mono ?_; rintro e w1 ⟨rfl, hb1⟩
    have y1 := hid hb1; clear hb1
    go_wp2_with fail
    refine (HM _).out.mono ?_; rintro e w2 ⟨rfl, hb2⟩
    have y2 := hid (bnext y1.out hb2); clear hb2
    go_wp2_with fail
    go_ret3
    exact ⟨rfl, y2.out⟩
   ·have q0 : decide ((0 : Int) < c) = false := by simp; omega
    simp only [hc2, Bool.false_eq_true, or_self, if_false]
    clear hc2
    by_cases hl1 : 1000 < W.size
    ·have q1 : decide ((1000 : Int) < (W.size : Int)) = true := by simp; omega
     simp only [hl1, true_or, if_true, show ¬ (5 : Int) = 0 by decide, if_false]
     clear hl1
     go_enter Tryz.func302, Tryz.ntmps302
     go_wp2_with fail
     refine HC.out.mono ?_; rintro e w1 ⟨rfl, hb1⟩
     have y1 := hid hb1; clear hb1
     go_wp2_with fail
     refine (HM _).out.mono ?_; rintro e w2 ⟨rfl, hb2⟩
     have y2 := hid (bnext y1.out hb2); clear hb2
     go_wp2_with fail
     go_ret3
     exact ⟨rfl, y2.out⟩
    ·have q1 : decide ((1000 : Int) < (W.size : Int)) = false := by simp; omega
     by_cases hl2 : 1000 < D.size
     ·have q2 : decide ((1000 : Int) < (D.size : Int)) = true := by simp; omega
      simp only [hl2, or_true, if_true, show ¬ (5 : Int) = 0 by decide, if_false]
      clear hl1 hl2
      go_enter Tryz.func302, Tryz.ntmps302
      go_wp2_with fail
      refine HC.out.mono ?_; rintro e w1 ⟨rfl, hb1⟩
      have y1 := hid hb1; clear hb1
      go_wp2_with fail
      refine (HM _).out.mono ?_; rintro e w2 ⟨rfl, hb2⟩
      have y2 := hid (bnext y1.out hb2); clear hb2
      go_wp2_with fail
      go_ret3
      exact ⟨rfl, y2.out⟩
     ·have q2 : decide ((1000 : Int) < (D.size : Int)) = false := by simp; omega
      simp only [hl1, hl2, or_self, if_false, if_true]
      clear hl1 hl2
      go_enter Tryz.func302, Tryz.ntmps302
      go_wp2_with fail
      refine HC.out.mono ?_; rintro e w1 ⟨rfl, hb1⟩
      have y1 := hid hb1; clear hb1
      go_wp2_with fail
      refine (HM _).out.mono ?_; rintro e w2 ⟨rfl, hb2⟩
      have y2 := hid (bnext y1.out hb2); clear hb2
      go_wp2_with fail
      go_ret3
      exact ⟨rfl, y2.out⟩
  ·simp only [true_or, if_true, show ¬ (2 : Int) = 0 by decide, if_false]
   go_enter Tryz.func302, Tryz.ntmps302
   go_wp2_with fail
   refine HC.out.mono ?_; rintro e w1 ⟨rfl, hb1⟩
   have y1 := hid hb1; clear hb1
   go_wp2_with fail
   go_ret3
   exact ⟨rfl, y1.out⟩
 ·have e1 : pW s = ⟨#[]⟩ := if_neg he
  have e2 : pD s = ⟨#[]⟩ := if_neg he
  have e3 : cPE s = qE s := by unfold cPE; rw [if_pos he]
  rw [e1, e2] at HC
  rw [e3, if_neg he, if_neg he]
  obtain ⟨x, hx⟩ : ∃ x, qE s = x := ⟨_, rfl⟩
  rw [hx] at HC he ⊢
  have q0 : (x == 0) = false := by simpa using he
  have q1 : (x != 0) = true := by simpa using he
  clear e1 e2 e3 hx z1 z2 HM
  go_enter Tryz.func302, Tryz.ntmps302
  go_wp2_with fail
  refine HC.out.mono ?_; rintro e w1 ⟨rfl, hb1⟩
  have y1 := hid hb1; clear hb1
  go_wp2_with fail
  go_ret3
  exact ⟨rfl, y1.out⟩
def gPE (s : ByteArray) : Int := if qE s ≠ 0 then qE s else if iM (cW s) = true ∨ 0 ≤ cmpN (cW s).data.toList (qD s).data.toList then 2 else if 1000 < (cW s).size ∨ 1000 < (qD s).size then 5 else 0
theorem g_ratio (w : World) (s : ByteArray) (hs : s.size ≤ 100000) (hL : Lay w) :
 Calls Tryz.prog 204 #[.string s] w fun e w' => e = .returned (.tuple #[.string (if gPE s = 0 then cW s else ⟨#[]⟩), .string (if gPE s = 0 then qD s else ⟨#[]⟩), .int .i64 (gPE s)]) ∧ Below w.heap.size w w' := by
 have HC := hid (q_Parts w s (by omega) hL)
 have z1 := cW_size s
 have z2 := qD_size s
 have HM := fun V => hid (n_Cmp V (cW s) (qD s) (by omega) (by omega))
 by_cases he : qE s = 0
 ·have e1 : pW s = cW s := if_pos he
  have e2 : pD s = qD s := if_pos he
  rw [e1, e2, he] at HC
  have HE : gPE s = if iM (cW s) = true ∨ 0 ≤ cmpN (cW s).data.toList (qD s).data.toList then 2 else if 1000 < (cW s).size ∨ 1000 < (qD s).size then 5 else 0 := by
   unfold gPE
   rw [if_neg (fun h => h he)]
  rw [HE]
  clear HE e1 e2
  obtain ⟨D, hD⟩ : ∃ D, qD s = D := ⟨_, rfl⟩
  obtain ⟨W, hW⟩ : ∃ W, cW s = W := ⟨_, rfl⟩
  obtain ⟨hw0, hiM⟩ := qE_head he hW
  clear he
  obtain ⟨m, hm⟩ : ∃ m, iM W = m := ⟨_, rfl⟩
  obtain ⟨c, hc⟩ : ∃ c, cmpN W.data.toList D.data.toList = c := ⟨_, rfl⟩
  rw [hD, hW] at HC HM
  rw [hm] at hiM
  rw [hc] at HM
  rw [hD, hW, hm, hc]
  clear hD hW hm hc z1 z2
  rcases m with _ | _
  ·by_cases hc2 : 0 ≤ c
   ·have q0 : decide ((0 : Int) ≤ c) = true := by simp; omega
    simp only [hc2, or_true, if_true, show ¬ (2 : Int) = 0 by decide, if_false]
    clear hc2
    go_enter Tryz.func204, Tryz.ntmps204
    go_wp2_with fail
    refine HC.out.mono ?_; rintro e w1 ⟨rfl, hb1⟩
    have y1 := hid hb1; clear hb1
    go_wp2_with fail
    refine (HM _).out.mono ?_; rintro e w2 ⟨rfl, hb2⟩
    have y2 := hid (bnext y1.out hb2); clear hb2
    go_wp2_with fail
    go_ret3
    exact ⟨rfl, y2.out⟩
   ·have q0 : decide ((0 : Int) ≤ c) = false := by simp; omega
    simp only [hc2, Bool.false_eq_true, or_self, if_false]
    clear hc2
    by_cases hl1 : 1000 < W.size
    ·have q1 : decide ((1000 : Int) < (W.size : Int)) = true := by simp; omega
     simp only [hl1, true_or, if_true, show ¬ (5 : Int) = 0 by decide, if_false]
     clear hl1
     go_enter Tryz.func204, Tryz.ntmps204
     go_wp2_with fail
     refine HC.out.mono ?_; rintro e w1 ⟨rfl, hb1⟩
     have y1 := hid hb1; clear hb1
     go_wp2_with fail
     refine (HM _).out.mono ?_; rintro e w2 ⟨rfl, hb2⟩
     have y2 := hid (bnext y1.out hb2); clear hb2
     go_wp2_with fail
     go_ret3
     exact ⟨rfl, y2.out⟩
    ·have q1 : decide ((1000 : Int) < (W.size : Int)) = false := by simp; omega
     by_cases hl2 : 1000 < D.size
     ·have q2 : decide ((1000 : Int) < (D.size : Int)) = true := by simp; omega
      simp only [hl2, or_true, if_true, show ¬ (5 : Int) = 0 by decide, if_false]
      clear hl1 hl2
      go_enter Tryz.func204, Tryz.ntmps204
      go_wp2_with fail
      refine HC.out.mono ?_; rintro e w1 ⟨rfl, hb1⟩
      have y1 := hid hb1; clear hb1
      go_wp2_with fail
      refine (HM _).out.mono ?_; rintro e w2 ⟨rfl, hb2⟩
      have y2 := hid (bnext y1.out hb2); clear hb2
      go_wp2_with fail
      go_ret3
      exact ⟨rfl, y2.out⟩
     ·have q2 : decide ((1000 : Int) < (D.size : Int)) = false := by simp; omega
      simp only [hl1, hl2, or_self, if_false, if_true]
      clear hl1 hl2
      go_enter Tryz.func204, Tryz.ntmps204
      go_wp2_with fail
      refine HC.out.mono ?_; rintro e w1 ⟨rfl, hb1⟩
      have y1 := hid hb1; clear hb1
      go_wp2_with fail
      refine (HM _).out.mono ?_; rintro e w2 ⟨rfl, hb2⟩
      have y2 := hid (bnext y1.out hb2); clear hb2
      go_wp2_with fail
      go_ret3
      exact ⟨rfl, y2.out⟩
  ·simp only [true_or, if_true, show ¬ (2 : Int) = 0 by decide, if_false]
   go_enter Tryz.func204, Tryz.ntmps204
   go_wp2_with fail
   refine HC.out.mono ?_; rintro e w1 ⟨rfl, hb1⟩
   have y1 := hid hb1; clear hb1
   go_wp2_with fail
   go_ret3
   exact ⟨rfl, y1.out⟩
 ·have e1 : pW s = ⟨#[]⟩ := if_neg he
  have e2 : pD s = ⟨#[]⟩ := if_neg he
  have e3 : gPE s = qE s := by unfold gPE; rw [if_pos he]
  rw [e1, e2] at HC
  rw [e3, if_neg he, if_neg he]
  obtain ⟨x, hx⟩ : ∃ x, qE s = x := ⟨_, rfl⟩
  rw [hx] at HC he ⊢
  have q0 : (x == 0) = false := by simpa using he
  have q1 : (x != 0) = true := by simpa using he
  clear e1 e2 e3 hx z1 z2 HM
  go_enter Tryz.func204, Tryz.ntmps204
  go_wp2_with fail
  refine HC.out.mono ?_; rintro e w1 ⟨rfl, hb1⟩
  have y1 := hid hb1; clear hb1
  go_wp2_with fail
  go_ret3
  exact ⟨rfl, y1.out⟩
end Go.Proofs.YtlmnpocifldpmaaGreatDoor
namespace Go.Proofs.YtlmnpocifldpmaaGreatDoor
open Go.RowKit
open Go.Lib (decDigits nDigits)
theorem toss_done {N D K T : Nat} {l : List UInt8} (h : sdB N D K T = true) : toss N D K T l = (true, sdV N D K T, 0) := by
 rw [toss.eq_def]; dsimp only; rw [if_pos h]
theorem toss_late {N D K T : Nat} (h : sdB N D K T = false) : toss N D K T [] = (false, 0, 0) := by
 rw [toss.eq_def]; dsimp only; rw [if_neg (by simp [h])]
theorem toss_next {N D K T : Nat} {b : UInt8} {r : List UInt8} (h : sdB N D K T = false) : toss N D K T (b :: r) = ((toss N D (2 * K + (if b = 49 then 1 else 0)) (2 * T) r).1, (toss N D (2 * K + (if b = 49 then 1 else 0)) (2 * T) r).2.1, (toss N D (2 * K + (if b = 49 then 1 else 0)) (2 * T) r).2.2 + 1) := by
 rw [toss.eq_def]; dsimp only; rw [if_neg (by simp [h])]
def tossAt (N D : Nat) (l : List UInt8) (K T u : Nat) : Bool × Nat × Nat := let x := toss N D K T (l.drop u); (x.1, x.2.1, x.2.2 + u)
theorem tossAt_done {N D K T u : Nat} {l : List UInt8} (h : sdB N D K T = true) : tossAt N D l K T u = (true, sdV N D K T, u) := by
 unfold tossAt; rw [toss_done h]; simp
theorem tossAt_late {N D K T : Nat} {l : List UInt8} (h : sdB N D K T = false) : tossAt N D l K T l.length = (false, 0, l.length) := by
 unfold tossAt; rw [List.drop_length, toss_late h]; simp
theorem tossAt_next {N D K T u : Nat} {l : List UInt8} (h : sdB N D K T = false) (hu : u < l.length) : tossAt N D l K T u = tossAt N D l (K + K + (if l[u] = 49 then 1 else 0)) (T + T) (u + 1) := by
 unfold tossAt
 rw [List.drop_eq_getElem_cons hu, toss_next h, Nat.two_mul, Nat.two_mul]
 simp only [Prod.mk.injEq, true_and]
 omega
structure Cell (K T u : Nat) : Prop where
 t : T = 2 ^ u
 k : K < T
theorem Cell.next {K T u x : Nat} (h : Cell K T u) (hx : x ≤ 1) : Cell (K + K + x) (T + T) (u + 1) := by
 refine ⟨?_, ?_⟩
 ·rw [h.t, Nat.pow_succ]; omega
 ·have := h.k; omega
theorem Cell.fits {N D K T u : Nat} (h : Cell K T u) (hu : u ≤ 256) (hN : N < 10 ^ eN) (hD : D < 10 ^ eN) : Fits N D K T := by
 have h1 : 2 ^ u ≤ 2 ^ 256 := Nat.pow_le_pow_right (by omega) hu
 have h2 : 2 ^ 256 < 10 ^ eK := by decide
 have ht := h.t
 have hk := h.k
 exact ⟨hN, hD, by omega, by omega⟩
theorem cPE_ok {p : ByteArray} (h : cPE p = 0) : cW p = numB (bN (cW p)) ∧ qD p = numB (bN (qD p)) ∧ bN (cW p) < 10 ^ eN ∧ bN (qD p) < 10 ^ eN ∧ bN (cW p) ≤ bN (qD p) := by
 unfold cPE at h
 split at h
 ·rename_i he
  exact absurd h he
 ·rename_i he
  have he' : qE p = 0 := Decidable.not_not.1 he
  split at h
  ·cases h
  ·rename_i h2
   split at h
   ·cases h
   ·rename_i h3
    obtain ⟨a, b, c, d, e1, e2⟩ := parts_ok he' (fun h => h2 (.inl h)) h3
    refine ⟨a, b, c, d, ?_⟩
    have h4 : ¬ 0 < cmpN (cW p).data.toList (qD p).data.toList := fun h => h2 (.inr h)
    rw [cmpN, if_pos ⟨e1, e2⟩, ordN] at h4
    show dv _ ≤ dv _
    split at h4
    ·omega
    ·split at h4
     ·simp at h4
     ·omega
theorem toss_used (N D : Nat) : ∀ (l : List UInt8) (K T : Nat), (toss N D K T l).2.2 ≤ l.length
 | [], K, T => by
  cases h : sdB N D K T
  ·rw [toss_late h]; simp
  ·rw [toss_done h]; simp
 | b :: r, K, T => by
  cases h : sdB N D K T
  ·rw [toss_next h]
   have := toss_used N D r (2 * K + (if b = 49 then 1 else 0)) (2 * T)
   simp only [List.length_cons]
   omega
  ·rw [toss_done h]; simp
theorem toss_val (N D : Nat) : ∀ (l : List UInt8) (K T : Nat), (toss N D K T l).2.1 ≤ 1
 | [], K, T => by
  cases h : sdB N D K T
  ·rw [toss_late h]; simp
  ·rw [toss_done h]; simp only [sdV]; split <;> omega
 | b :: r, K, T => by
  cases h : sdB N D K T
  ·rw [toss_next h]
   exact toss_val N D r _ _
  ·rw [toss_done h]; simp only [sdV]; split <;> omega
theorem toss_one {N D : Nat} (h : N < D) {l : List UInt8} (hd : (toss N D 0 1 l).1 = true) (hv : (toss N D 0 1 l).2.1 = 1) : 1 ≤ (toss N D 0 1 l).2.2 := by
 cases hs : sdB N D 0 1
 ·cases l with
  | nil => rw [toss_late hs] at hd; cases hd
  | cons b r => rw [toss_next hs]; simp
 ·rw [toss_done hs] at hv
  simp only [sdV, Nat.mul_one, Nat.zero_mul] at hv
  simp only [sdB, Nat.mul_one, Nat.zero_mul, Nat.zero_add, Bool.or_eq_true, decide_eq_true_eq] at hs
  split at hv
  ·cases hv
  ·omega
def coinF (N D : Nat) (l : List UInt8) (p : Nat) : Bool × Nat × Nat := tossAt N D (l.drop p) 0 1 0
theorem coinF_eq (N D : Nat) (l : List UInt8) (p : Nat) : coinF N D l p = toss N D 0 1 (l.drop p) := by simp [coinF, tossAt]
def posOf (pre : List (Nat × Nat)) : Nat := match pre.getLast? with | some x => x.1 | none => 0
theorem posOf_nil : posOf [] = 0 := rfl
theorem posOf_snoc (pre : List (Nat × Nat)) (x : Nat × Nat) : posOf (pre ++ [x]) = x.1 := by simp [posOf]
theorem coinF_le {N D : Nat} {l : List UInt8} {p : Nat} (hp : p ≤ l.length) : p + (coinF N D l p).2.2 ≤ l.length := by
 rw [coinF_eq]
 have := toss_used N D (l.drop p) 0 1
 rw [List.length_drop] at this
 omega
def ser (N D : Nat) (l : List UInt8) : Nat → Nat → Nat → List Nat → Nat → Option (List Nat × Nat)
 | 0, _, _, _, _ => none
 | f + 1, m, p, vs, n =>
  if (coinF N D l p).1 = false then none
  else if (coinF N D l p).2.1 = 1 then ser N D l f m (p + (coinF N D l p).2.2) vs (n + 1)
  else if m ≤ 1 then some (vs ++ [n], p + (coinF N D l p).2.2)
  else ser N D l f (m - 1) (p + (coinF N D l p).2.2) (vs ++ [n]) 0
theorem coinF_one {N D : Nat} (h : N < D) {l : List UInt8} {p : Nat} (hd : (coinF N D l p).1 = true) (hv : (coinF N D l p).2.1 = 1) : 1 ≤ (coinF N D l p).2.2 := by
 rw [coinF_eq] at *
 exact toss_one h hd hv
theorem ser_fuel {N D : Nat} (h : N < D) {l : List UInt8} : ∀ (f f' m p : Nat) (vs : List Nat) (n : Nat), 1 ≤ m → p ≤ l.length → l.length - p + m ≤ f → l.length - p + m ≤ f' → ser N D l f m p vs n = ser N D l f' m p vs n := by
 intro f
 induction f with
 | zero => intro f' m p vs n hm hp h1 h2; omega
 | succ f ih =>
  intro f' m p vs n hm hp h1 h2
  cases f' with
  | zero => omega
  | succ f' =>
   have hle := coinF_le (N := N) (D := D) hp
   simp only [ser]
   split
   ·rfl
   ·rename_i hd
    have hd' : (coinF N D l p).1 = true := by simpa using hd
    split
    ·rename_i hv
     have := coinF_one h hd' hv
     exact ih _ _ _ _ _ hm hle (by omega) (by omega)
    ·split
     ·rfl
     ·exact ih _ _ _ _ _ (by omega) hle (by omega) (by omega)
def sr (N D : Nat) (l : List UInt8) (m p : Nat) (vs : List Nat) (n : Nat) : Option (List Nat × Nat) := ser N D l (l.length - p + m) m p vs n
theorem sr_of {N D : Nat} (h : N < D) {l : List UInt8} {f m p n : Nat} {vs : List Nat} (hm : 1 ≤ m) (hp : p ≤ l.length) (hf : l.length - p + m ≤ f) : ser N D l f m p vs n = sr N D l m p vs n := ser_fuel h _ _ _ _ _ _ hm hp hf (Nat.le_refl _)
theorem sr_unfold {N D : Nat} {l : List UInt8} {m p n : Nat} {vs : List Nat} (hm : 1 ≤ m) : sr N D l m p vs n = ser N D l ((l.length - p + m - 1) + 1) m p vs n := by
 unfold sr
 rw [show l.length - p + m - 1 + 1 = l.length - p + m by omega]
theorem sr_late {N D : Nat} {l : List UInt8} {m p n : Nat} {vs : List Nat} (hm : 1 ≤ m) (hd : (coinF N D l p).1 = false) : sr N D l m p vs n = none := by
 rw [sr_unfold hm, ser, if_pos hd]
theorem sr_one {N D : Nat} (h : N < D) {l : List UInt8} {m p n : Nat} {vs : List Nat} (hm : 1 ≤ m) (hp : p ≤ l.length) (hd : (coinF N D l p).1 = true) (hv : (coinF N D l p).2.1 = 1) : sr N D l m p vs n = sr N D l m (p + (coinF N D l p).2.2) vs (n + 1) := by
 have hle := coinF_le (N := N) (D := D) hp
 have := coinF_one h hd hv
 rw [sr_unfold hm, ser, if_neg (by simp [hd]), if_pos hv]
 exact sr_of h hm hle (by omega)
theorem sr_stop {N D : Nat} {l : List UInt8} {p n : Nat} {vs : List Nat} (hd : (coinF N D l p).1 = true) (hv : ¬ (coinF N D l p).2.1 = 1) : sr N D l 1 p vs n = some (vs ++ [n], p + (coinF N D l p).2.2) := by
 rw [sr_unfold (Nat.le_refl 1), ser, if_neg (by simp [hd]), if_neg hv, if_pos (Nat.le_refl 1)]
theorem sr_more {N D : Nat} (h : N < D) {l : List UInt8} {m p n : Nat} {vs : List Nat} (hm : 2 ≤ m) (hp : p ≤ l.length) (hd : (coinF N D l p).1 = true) (hv : ¬ (coinF N D l p).2.1 = 1) : sr N D l m p vs n = sr N D l (m - 1) (p + (coinF N D l p).2.2) (vs ++ [n]) 0 := by
 have hle := coinF_le (N := N) (D := D) hp
 rw [sr_unfold (by omega), ser, if_neg (by simp [hd]), if_neg hv, if_neg (by omega)]
 exact sr_of h (by omega) hle (by omega)
def s1 (N D : Nat) (l : List UInt8) (p n : Nat) : Option (Nat × Nat) := match sr N D l 1 p [] n with | some (x :: _, at') => some (x, at') | _ => none
theorem sr_one_eq {N D : Nat} (h : N < D) {l : List UInt8} : ∀ (f p : Nat) (vs : List Nat) (n : Nat), p ≤ l.length → l.length - p ≤ f → sr N D l 1 p vs n = match s1 N D l p n with | some (x, a) => some (vs ++ [x], a) | none => none := by
 intro f
 induction f with
 | zero =>
  intro p vs n hp hf
  cases hd : (coinF N D l p).1
  ·rw [s1, sr_late (Nat.le_refl 1) hd, sr_late (Nat.le_refl 1) hd]
  ·by_cases hv : (coinF N D l p).2.1 = 1
   ·have := coinF_one h hd hv
    have := coinF_le (N := N) (D := D) hp
    omega
   ·rw [s1, sr_stop hd hv, sr_stop hd hv]
    rfl
 | succ f ih =>
  intro p vs n hp hf
  cases hd : (coinF N D l p).1
  ·rw [s1, sr_late (Nat.le_refl 1) hd, sr_late (Nat.le_refl 1) hd]
  ·by_cases hv : (coinF N D l p).2.1 = 1
   ·have := coinF_one h hd hv
    have hle := coinF_le (N := N) (D := D) hp
    rw [s1, sr_one h (Nat.le_refl 1) hp hd hv, sr_one h (Nat.le_refl 1) hp hd hv, ih _ _ _ hle (by omega)]
    rfl
   ·rw [s1, sr_stop hd hv, sr_stop hd hv]
    rfl
theorem s1_le {N D : Nat} (h : N < D) {l : List UInt8} : ∀ (f p n x a : Nat), p ≤ l.length → l.length - p ≤ f → s1 N D l p n = some (x, a) → p ≤ a ∧ a ≤ l.length ∧ x ≤ n + (a - p) := by
 intro f
 induction f with
 | zero =>
  intro p n x a hp hf hs
  cases hd : (coinF N D l p).1
  ·rw [s1, sr_late (Nat.le_refl 1) hd] at hs; cases hs
  ·by_cases hv : (coinF N D l p).2.1 = 1
   ·have := coinF_one h hd hv
    have := coinF_le (N := N) (D := D) hp
    omega
   ·rw [s1, sr_stop hd hv] at hs
    simp at hs
    have := coinF_le (N := N) (D := D) hp
    omega
 | succ f ih =>
  intro p n x a hp hf hs
  cases hd : (coinF N D l p).1
  ·rw [s1, sr_late (Nat.le_refl 1) hd] at hs; cases hs
  ·by_cases hv : (coinF N D l p).2.1 = 1
   ·have := coinF_one h hd hv
    have hle := coinF_le (N := N) (D := D) hp
    rw [s1, sr_one h (Nat.le_refl 1) hp hd hv] at hs
    have := ih _ _ _ _ hle (by omega) hs
    omega
   ·rw [s1, sr_stop hd hv] at hs
    simp at hs
    have := coinF_le (N := N) (D := D) hp
    omega
theorem sr_two {N D : Nat} (h : N < D) {l : List UInt8} : ∀ (f p : Nat) (vs : List Nat) (n : Nat), p ≤ l.length → l.length - p ≤ f → sr N D l 2 p vs n = match s1 N D l p n with
 | some (x, a) => sr N D l 1 a (vs ++ [x]) 0
 | none => none := by
 intro f
 induction f with
 | zero =>
  intro p vs n hp hf
  cases hd : (coinF N D l p).1
  ·rw [s1, sr_late (by omega) hd, sr_late (Nat.le_refl 1) hd]
  ·by_cases hv : (coinF N D l p).2.1 = 1
   ·have := coinF_one h hd hv
    have := coinF_le (N := N) (D := D) hp
    omega
   ·rw [s1, sr_stop hd hv, sr_more h (Nat.le_refl 2) hp hd hv]
    rfl
 | succ f ih =>
  intro p vs n hp hf
  cases hd : (coinF N D l p).1
  ·rw [s1, sr_late (by omega) hd, sr_late (Nat.le_refl 1) hd]
  ·by_cases hv : (coinF N D l p).2.1 = 1
   ·have := coinF_one h hd hv
    have hle := coinF_le (N := N) (D := D) hp
    rw [s1, sr_one h (by omega) hp hd hv, sr_one h (Nat.le_refl 1) hp hd hv, ih _ _ _ hle (by omega)]
    rfl
   ·rw [s1, sr_stop hd hv, sr_more h (Nat.le_refl 2) hp hd hv]
    rfl
theorem coinF_drop (N D : Nat) (l : List UInt8) (a q : Nat) : coinF N D (l.drop a) q = coinF N D l (a + q) := by
 unfold coinF; rw [List.drop_drop]
theorem s1_drop {N D : Nat} (h : N < D) {l : List UInt8} {a : Nat} (ha : a ≤ l.length) : ∀ (f q n : Nat), a + q ≤ l.length → l.length - (a + q) ≤ f → s1 N D l (a + q) n = (s1 N D (l.drop a) q n).map (fun x => (x.1, a + x.2)) := by
 intro f
 induction f with
 | zero =>
  intro q n hp hf
  have hc := coinF_drop N D l a q
  cases hd : (coinF N D l (a + q)).1
  ·rw [s1, s1, sr_late (Nat.le_refl 1) hd, sr_late (Nat.le_refl 1) (by rw [hc]; exact hd)]
   rfl
  ·by_cases hv : (coinF N D l (a + q)).2.1 = 1
   ·have := coinF_one h hd hv
    have := coinF_le (N := N) (D := D) hp
    omega
   ·rw [s1, s1, sr_stop hd hv, sr_stop (by rw [hc]; exact hd) (by rw [hc]; exact hv), hc]
    simp [Nat.add_assoc]
 | succ f ih =>
  intro q n hp hf
  have hc := coinF_drop N D l a q
  cases hd : (coinF N D l (a + q)).1
  ·rw [s1, s1, sr_late (Nat.le_refl 1) hd, sr_late (Nat.le_refl 1) (by rw [hc]; exact hd)]
   rfl
  ·by_cases hv : (coinF N D l (a + q)).2.1 = 1
   ·have := coinF_one h hd hv
    have hle := coinF_le (N := N) (D := D) hp
    have ih' := ih (q + (coinF N D l (a + q)).2.2) (n + 1) (by omega) (by omega)
    rw [← Nat.add_assoc] at ih'
    rw [s1, s1, sr_one h (Nat.le_refl 1) hp hd hv, sr_one (l := l.drop a) (p := q) h (Nat.le_refl 1) (by rw [List.length_drop]; omega) (by rw [hc]; exact hd) (by rw [hc]; exact hv), hc]
    exact ih'
   ·rw [s1, s1, sr_stop hd hv, sr_stop (by rw [hc]; exact hd) (by rw [hc]; exact hv), hc]
    simp [Nat.add_assoc]
end Go.Proofs.YtlmnpocifldpmaaGreatDoor
