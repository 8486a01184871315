/- Texts that the proof rests on, merged: R1k, R1q, R1f, R1g, R1h, R1i, R1j, R2a, R1c, Pc2, Sh3, Rep, Sd, Tt, NpG, Lt. -/
import Derived.Test.YtgphopkifomffaaGreatDoorMb2
import Derived.Deep.RegionHeld3
import Derived.IntWalk
import Derived.Deep.DeepCutAuto
import Derived.Deep.CutBlock
import Derived.Laws.Concat
import Derived.Shelf.Bits.Mul64
import Derived.Ground.NamesProg
import Derived.Test.YtgphopkifomffaaGreatDoorProg
import Derived.Laws.CopyOwn
import Derived.RegionTactic
import Derived.Deep.LoopGhost
set_option linter.unusedVariables false
set_option linter.unusedSimpArgs false
set_option linter.unusedSectionVars false
set_option maxRecDepth 100000
set_option maxHeartbeats 8000000
namespace Go.Proofs.YtgphopkifomffaaGreatDoor
open Go.RowKit
theorem r1_ReadF (w : World) (s : ByteArray) (hd : allDig s.data.toList) (hs : s.size ≤ 1000000) :
 Calls Tryz.prog 41 #[.string s] w fun e w' => RetFr w.heap.size .i64 (dv s.data.toList) e w' ∧ Below w.heap.size w w' := by
 obtain ⟨i0, hi, hz0, hz1, hz2⟩ := info_parts info_int
 have HD := hid hd; clear hd
 have hsl := hid (show s.data.toList.length = s.size from by simp)
 go_enter Tryz.func41, Tryz.ntmps41
 go_wp2_with fail
 go_loopw [3, 4, 5, 6] (fun o ee nn ii wr => ∃ (l : List Nat) (t : Int) (e : Nat), ee = .int .i64 t ∧ t ≤ s.size ∧ -9 < t ∧ e = t.toNat ∧ l.length ≤ s.size ∧ l.length + e ≤ s.size ∧ Hid (ReadI s.data.toList e l) ∧ Hid (wr.ownsRow w.heap.size 3 1 o l.length (ints .i64 l)) ∧ Hid (Below w.heap.size w wr))
  (fun _ ee _ _ _ => (intOf ee).toNat)
 case atStart => exact ⟨[], _, s.size, rfl, by omega, by omega, by simp, by simp, by simp, by have := ReadI.start s.data.toList; rw [hsl.out] at this; exact this, World.ownsRow_nil _ _ _ _, Below.refl _ _⟩
 case round =>
  obtain ⟨l, t, e, rfl, ht1, ht2, he, hl1, hl2, hR, hO, hB⟩ := hrel
  obtain ⟨ao, co, rfl⟩ := owns_ex hO.out
  by_cases h0 : e = 0
  ·have q0 : decide ((0 : Int) < t) = false := by simp; omega
   subst h0
   have hv := hid hR.out.done
   clear he
   go_wp2_with fail
   refine (r1_trim_at _ _ _ l hR.out.sm (Row.of_owns hO.out)).mono ?_
   rintro e w1 ⟨⟨m, rfl, hv1⟩, rfl⟩
   go_wp2_with fail
   go_ret
   refine ⟨⟨_, rfl, by rw [← hv.out]; exact hv1, fun g hg => (hO.out.lt g ?_).1⟩, hB.out⟩
   cases ao with
   | none => simp [Value.ownBlock] at hg
   | some ad => simpa [Value.ownBlock] using hg
  ·obtain rfl : t = (e : Int) := by omega
   clear he
   have q0 : decide ((0 : Int) < (e : Int)) = true := by simp; omega
   obtain ⟨L, hL⟩ : ∃ L, s.data.toList = L := ⟨_, rfl⟩
   obtain ⟨s0, hs0⟩ : ∃ s0, s0 = e - 9 := ⟨_, rfl⟩
   have HS0 := hid hs0
   have h3 : s0 ≤ e := by omega
   have h4 : e ≤ s0 + 9 := by omega
   have hI : (9 < e ∧ (e : Int) - 9 = (s0 : Int)) ∨ (e ≤ 9 ∧ (0 : Int) = (s0 : Int)) := by omega
   clear hs0
   rcases hI with ⟨h9, hse⟩ | ⟨h9, hse⟩
   all_goals
    have HSE := hid hse
    clear hse
    go_wp2_with fail
    go_loop [5, 6] (fun nn ii => ∃ (i x : Nat), ii = .int .i64 i ∧ nn = .int .i64 x ∧ s0 ≤ i ∧ i ≤ e ∧ x < 1000000000 ∧ Hid (x = dv ((L.drop s0).take (i - s0)))) (fun _ ii => e - (intOf ii).toNat)
    case atStart => exact ⟨s0, 0, by have hh := HSE.out; first | (rw [← hh]; done) | (congr 1; omega), rfl, Nat.le_refl _, h3, by omega, by simp [Hid]⟩
    case round =>
     obtain ⟨i, x, rfl, rfl, hi1, hi2, hx, hxd⟩ := hrel
     by_cases hlt : i < e
     ·have hsz : i < s.size := by omega
      have hb := byte_get hsz
      rw [hL] at hb
      have hdig := isDig_iff.1 (HD.out s[i] (List.mem_of_getElem? (by rw [hL]; exact hb)))
      have hd1 := hdig.1; have hd2 := hdig.2
      have hcs := hid (chunk_succ hb hi1)
      have hlt9 := hid (chunk_lt (L := L) (a := s0) (k := i + 1 - s0) (by rw [← hL]; exact HD.out) (by omega))
      clear hb hdig
      go_wp2_with fail
      go_round
      case rel =>
       refine ⟨i + 1, 10 * x + (s[i].toNat - 48), by go_num, ?_, by omega, by omega, ?_, ?_⟩
       ·congr 1; omega
       ·have := hlt9.out; rw [hcs.out, ← hxd.out] at this; exact this
       ·rw [Hid, hcs.out, ← hxd.out]
      case measure => simp [intOf] <;> omega
     ·obtain rfl : i = e := by omega
      have HN := hid (hR.out.next HD.out)
      rw [hL, ← HS0.out, ← hxd.out] at HN
      go_wp2_with (at_builtin; refine wpList_append_own _ rfl _ _ 80 rfl w.heap.size 3 i0 (.int .i64 0) 1 8 Tryz.underlying80 hi hz0 hz1 hz2 rfl (by decide) _ l.length _ rfl (hO.out.alloc _) ⟨wr.heap.size, 0, none⟩ 1 1 [.int .i64 (x : Int)] rfl rfl (cell_one_new wr (.int .i64 (x : Int)) 3) (by simp [Value.oneCell']) (by unfold maxLen; omega) (by omega) (by have := hB.out.size; simp; omega) ?_; intro v' w3 hown3 hgrow3 _; have HO3 := hid hown3; have HG3 := hid hgrow3; clear hown3 hgrow3)
      obtain ⟨n1, n2⟩ := own_next hO.out hB.out HO3.out HG3.out
      have N1 := hid n1; have N2 := hid n2; clear n1 n2 HO3 HG3
      obtain ⟨a3, k3, rfl⟩ := owns_ex N1.out
      have hS := HS0.out
      go_wp2_with fail
      go_roundw
      case rel => exact ⟨l ++ [x], _, s0, rfl, by omega, by omega, by omega, by simp <;> omega, by simp <;> omega, by rw [hL]; exact HN, N1, N2⟩
      case measure => simp [intOf] <;> omega
open Go.Lib (decDigits nDigits)
theorem isN_one (w : World) : IsN .i64 (w.alloc (.cells #[.int .i64 1] 3)) (.slice (some ⟨w.heap.size, 0, none⟩) 1 1) 1 := by
 unfold IsN
 rw [limbs_one]
 exact Row.of_blk (b := w.heap.size) (n := 1) (c := 1) (cs := #[.int .i64 1]) (Blk.new w _ _) rfl (by unfold maxLen; omega) (fun i x hx => by simpa [ints] using hx) (Nat.le_refl _) (by unfold maxLen; omega)
end Go.Proofs.YtgphopkifomffaaGreatDoor
namespace Go.Proofs.YtgphopkifomffaaGreatDoor
open Go.RowKit
def Ret2N (k : IntKind) (n m : Nat) (e : Ending) (w' : World) : Prop := ∃ v, e = .returned (.tuple #[v, .int k (m : Int)]) ∧ IsN k w' v n
theorem r1_short (w : World) (v : Value) (a d : Nat) (ha : IsN .i64 w v a) (hd0 : 0 < d) (hd1 : d < 1000000000) (hla : (limbs a).length ≤ 1000000) :
 Calls Tryz.prog 188 #[v, .int .i64 d] w fun e w' => Ret2N .i64 (a / d) (a % d) e w' ∧ Below w.heap.size w w' := by
 obtain ⟨a1, c1, rfl, h1, h2, h3⟩ := ha.openI
 have H3 := hid h3; clear h3 ha
 obtain ⟨n, ea⟩ : ∃ n, (limbs a).length = n := ⟨_, rfl⟩
 rw [ea] at h1 hla ⊢
 have HA := hid ea
 clear ea
 have hmk := fun W => make_limbs n (by omega) W
 have hdz : ((d : Int) == 0) = false := by simp; omega
 go_enter Tryz.func188, Tryz.ntmps188
 go_wp2_with fail
 clear hmk
 go_loopw [7, 8, 9] (fun rr ii nn wr => ∃ (j r : Nat) (t : Int) (o : List Nat), rr = .int .i64 r ∧ ii = .int .i64 t ∧ t = (j : Int) - 1 ∧ j ≤ n ∧ Hid (SmallI a d j r o) ∧ Hid (Arr .i64 3 wr w.heap.size o) ∧ Hid (Below w.heap.size w wr)) (fun _ ii _ _ => (intOf ii + 1).toNat)
 case atStart => exact ⟨n, 0, _, _, rfl, rfl, rfl, Nat.le_refl _, by have := SmallI.start (a := a) hd0; rw [HA.out] at this; exact this, Arr.made w .i64 3 n, (Below.refl _ _).alloc (Nat.le_refl _) _⟩
 case round =>
  obtain ⟨j, r, t, o, rfl, rfl, ht, hj, hS, hO, hB⟩ := hrel
  have hsz : Hid (o.length = n) := by rw [Hid, hS.out.len, HA.out]
  cases j with
  | zero =>
   obtain rfl : t = -1 := by omega
   clear ht
   have hv := hid hS.out.done
   have hr := hid (show Row wr (.slice (some ⟨w.heap.size, 0, none⟩) n n) (ints .i64 o) from by
    have := hO.out.row (n := n) (c := n) (by rw [hsz.out]; exact Nat.le_refl _) (Nat.le_refl _) (by unfold maxLen; omega)
    rwa [List.take_of_length_le (by rw [hsz.out]; exact Nat.le_refl _)] at this)
   go_wp2_with (go_at_call 79; refine (r1_trim _ _ o hS.out.sm hr.out).mono ?_; rintro e w1 ⟨⟨v1, rfl, hv1⟩, rfl⟩)
   go_ret2
   exact ⟨⟨v1, ret_tup (by rw [hv.out.2]), by rw [← hv.out.1]; exact hv1⟩, hB.out⟩
  | succ j =>
   obtain rfl : t = (j : Int) := by omega
   clear ht
   obtain ⟨x, hx⟩ : ∃ x, (limbs a)[j]? = some x := ⟨_, List.getElem?_eq_getElem (by rw [HA.out]; omega)⟩
   obtain ⟨g, og, rfl, hg, hc⟩ := H3.out _ x hx
   have d1 := (hB.out.cell (p := ⟨g, og + j, none⟩) hg).trans hc
   obtain ⟨z, hz⟩ : ∃ z, o[j]? = some z := ⟨_, List.getElem?_eq_getElem (by rw [hsz.out]; omega)⟩
   have d3 := hO.out.cell hz
   have d4 := hO.out.free j
   have HN := hid (hS.out.next hx)
   have hxl := (sm_limbs a).get hx
   have hrl := hS.out.rd
   clear hx hc hz
   go_wp2_with fail
   go_roundw
   case rel =>
    have e1 : (((r : Int) * 1000000000 + x) / d) = (((r * 1000000000 + x) / d : Nat) : Int) := by rw [Int.natCast_ediv]; rfl
    have e2 : (((r : Int) * 1000000000 + x) % d) = (((r * 1000000000 + x) % d : Nat) : Int) := by rw [Int.natCast_emod]; rfl
    rw [e1]
    exact ⟨j, _, _, _, by rw [e2], rfl, by omega, by omega, HN, hO.out.set j _, below_set hB.out (Nat.le_refl _) _⟩
   case measure => simp [intOf] <;> omega
def RetArr (k : IntKind) (t : TypeId) (B n len : Nat) (e : Ending) (w' : World) : Prop := ∃ g o, e = .returned (.slice (some ⟨g, 0, none⟩) len len) ∧ B ≤ g ∧ Arr k t w' g o ∧ o.length = len ∧ Sm o ∧ val o = n
theorem r1_scaled (w : World) (v : Value) (a d : Nat) (ha : IsN .i64 w v a) (hd1 : d < 1000000000) (hla : (limbs a).length ≤ 1000000) :
 Calls Tryz.prog 189 #[v, .int .i64 d] w fun e w' => RetArr .i64 3 w.heap.size (a * d) ((limbs a).length + 1) e w' ∧ Below w.heap.size w w' := by
 obtain ⟨a1, c1, rfl, h1, h2, h3⟩ := ha.openI
 have H3 := hid h3; clear h3 ha
 obtain ⟨n, ea⟩ : ∃ n, (limbs a).length = n := ⟨_, rfl⟩
 rw [ea] at h1 hla ⊢
 have HA := hid ea
 clear ea
 have hmk : ∀ W : World, (Instr.makeSlice 80 (.int .i64 ((n : Int) + 1)) (.int .i64 ((n : Int) + 1))).run Tryz.prog W = .ok (.slice (some ⟨W.heap.size, 0, none⟩) (n + 1) (n + 1)) (W.alloc (.cells (madeCells #[.int .i64 0] (n + 1)) 3)) := fun W => by
  have := make_limbs (n + 1) (by omega) W
  rwa [Int.natCast_add] at this
 go_enter Tryz.func189, Tryz.ntmps189
 go_wp2_with fail
 clear hmk
 go_loopw [6, 7, 8] (fun cc ii nn wr => ∃ (i c : Nat) (o : List Nat), cc = .int .i64 c ∧ ii = .int .i64 i ∧ i ≤ n ∧ Hid (ScaleI a d i c o) ∧ Hid (Arr .i64 3 wr w.heap.size o) ∧ Hid (Below w.heap.size w wr)) (fun _ ii _ _ => n - (intOf ii).toNat)
 case atStart => exact ⟨0, 0, _, rfl, rfl, Nat.zero_le _, ScaleI.start a d, by rw [HA.out]; exact Arr.made w .i64 3 (n + 1), (Below.refl _ _).alloc (Nat.le_refl _) _⟩
 case round =>
  obtain ⟨i, c, o, rfl, rfl, hin, hS, hO, hB⟩ := hrel
  have hsz : Hid (o.length = n + 1) := by rw [Hid, hS.out.len, HA.out]
  by_cases hlt : i < n
  ·obtain ⟨x, hx⟩ : ∃ x, (limbs a)[i]? = some x := ⟨_, List.getElem?_eq_getElem (by rw [HA.out]; exact hlt)⟩
   obtain ⟨g, og, rfl, hg, hc⟩ := H3.out _ x hx
   have d1 := (hB.out.cell (p := ⟨g, og + i, none⟩) hg).trans hc
   obtain ⟨z, hz⟩ : ∃ z, o[i]? = some z := ⟨_, List.getElem?_eq_getElem (by rw [hsz.out]; omega)⟩
   have d3 := hO.out.cell hz
   have d4 := hO.out.free i
   have HN := hid (hS.out.next hd1 hx)
   have hb1 := mul_bound (old := 0) (by omega) ((sm_limbs a).get hx) hd1 hS.out.c1
   have hcl := hS.out.c1
   clear hx hc hz
   have HP := hid (show ((x : Int) * (d : Int)) = ((x * d : Nat) : Int) from (Int.natCast_mul x d).symm)
   obtain ⟨p, hp⟩ : ∃ p, x * d = p := ⟨_, rfl⟩
   rw [hp] at hb1 HN HP
   have hp2 := hb1.2; clear hb1 hp
   have e5 : IntKind.i64.wrap ((x : Int) * (d : Int)) = (p : Int) := by rw [HP.out]; exact IntWalk.i64_in _ (by omega)
   have e5' : wrap64 ((x : Int) * (d : Int)) = (p : Int) := by rw [HP.out]; exact IntWalk.wrap64_in _ (by omega)
   go_wp2_with fail
   clear e5 e5'
   go_roundw
   case rel =>
    have hz : (((p : Int) + c) % 1000000000) = (((p + c) % 1000000000 : Nat) : Int) := by omega
    rw [hz]
    exact ⟨i + 1, (p + c) / 1000000000, _, by go_num, by go_num, by omega, HN, hO.out.set i _, below_set hB.out (Nat.le_refl _) _⟩
   case measure => simp [intOf] <;> omega
  ·obtain rfl : i = n := by omega
   obtain ⟨z, hz⟩ : ∃ z, o[i]? = some z := ⟨_, List.getElem?_eq_getElem (by rw [hsz.out]; omega)⟩
   have d3 := hO.out.cell hz
   have d4 := hO.out.free i
   clear hz
   have hD := hid (show val (o.set i c) = a * d ∧ Sm (o.set i c) ∧ (o.set i c).length = i + 1 from by have := hS.out; rw [← HA.out] at this ⊢; exact this.done)
   go_wp2_with fail
   go_ret
   exact ⟨⟨w.heap.size, _, rfl, Nat.le_refl _, hO.out.set i c, hD.out.2.2, hD.out.2.1, hD.out.1⟩, below_set hB.out (Nat.le_refl _) _⟩
def StepOut (us vs : List Nat) (gu j n : Nat) (w : World) (e : Ending) (w' : World) : Prop :=
 e = .returned (.int .i64 ((val ((us.drop j).take (n + 1)) / val vs : Nat) : Int)) ∧ ∃ o, WinOut us j n (val ((us.drop j).take (n + 1)) % val vs) o ∧ Arr .i64 3 w' gu o ∧ w.grownBy w' (some gu)
theorem r1_step (w : World) (gu j cu : Nat) (us : List Nat) (gv ov cv : Nat) (vs : List Nat) (n : Nat) (hS : StepIn us vs j n) (hU : Arr .i64 3 w gu us) (hV : Row w (.slice (some ⟨gv, ov, none⟩) n cv) (ints .i64 vs)) (hne : gv ≠ gu) :
 Calls Tryz.prog 190 #[.slice (some ⟨gu, j, none⟩) (n + 1) cu, .slice (some ⟨gv, ov, none⟩) n cv] w fun e w' => StepOut us vs gu j n w e w' := by
 have n2 := hS.n2; have nm := hS.nm; have lu := hS.lu; have um := hS.um
 have cv' : ∀ i, i < n → w.cell? ⟨gv, ov + i, none⟩ = some (.int .i64 (vs.getD i 0 : Nat)) := fun i hi => by
  obtain ⟨g, o, e, hg, hc⟩ := hV.at (ints_get (getD_some (l := vs) (i := i) (by rw [hS.lv]; exact hi)))
  simp at e
  obtain ⟨rfl, rfl⟩ := e
  exact hc
 have cu' : ∀ i, i ≤ n → w.cell? ⟨gu, j + i, none⟩ = some (.int .i64 (us.getD (j + i) 0 : Nat)) := fun i hi => hU.cell (getD_some (by omega))
 have hE := hid hS.est
 have a0 := cu' n (Nat.le_refl _)
 have a1 := cu' (n - 1) (by omega)
 have a2 := cu' (n - 2) (by omega)
 have b1 := cv' (n - 1) (by omega)
 have b2 := cv' (n - 2) (by omega)
 have CV := hid cv'; have CU := hid cu'; have HS := hid hS; have HU := hid hU
 clear cv' cu' hS hU hV
 obtain ⟨u0, hu0⟩ : ∃ x, us.getD (j + n) 0 = x := ⟨_, rfl⟩
 obtain ⟨u1, hu1⟩ : ∃ x, us.getD (j + (n - 1)) 0 = x := ⟨_, rfl⟩
 obtain ⟨u2, hu2⟩ : ∃ x, us.getD (j + (n - 2)) 0 = x := ⟨_, rfl⟩
 obtain ⟨v1, hv1⟩ : ∃ x, vs.getD (n - 1) 0 = x := ⟨_, rfl⟩
 obtain ⟨v2, hv2⟩ : ∃ x, vs.getD (n - 2) 0 = x := ⟨_, rfl⟩
 rw [hu0, hu1, hu2, hv1, hv2] at hE
 rw [hu0] at a0; rw [hu1] at a1; rw [hu2] at a2; rw [hv1] at b1; rw [hv2] at b2
 have HU0 := hid hu0; clear hu0 hu1 hu2 hv1 hv2
 have l0 := hE.out.b0; have l1 := hE.out.b1; have l2 := hE.out.b2; have l3 := hE.out.c1; have l4 := hE.out.c2; have l5 := hE.out.v0
 have dz : ((v1 : Int) == 0) = false := by simp; omega
 have f1 : (0 : Int) ≤ (n : Int) - 1 := by omega
 have f2 : (n : Int) - 1 < (n : Int) + 1 := by omega
 have f3 : (n : Int) - 1 < (n : Int) := by omega
 have f4 : (0 : Int) ≤ (n : Int) - 2 := by omega
 have f5 : (n : Int) - 2 < (n : Int) + 1 := by omega
 have f6 : (n : Int) - 2 < (n : Int) := by omega
 have f7 : (0 : Int) ≤ (n : Int) := by omega
 have f8 : (n : Int) < (n : Int) + 1 := by omega
 have e1 : IntKind.i64.wrap ((n : Int) - 1) = (n : Int) - 1 := IntWalk.i64_in _ (by omega)
 have e2 : IntKind.i64.wrap ((n : Int) - 2) = (n : Int) - 2 := IntWalk.i64_in _ (by omega)
 have e3 : ((n : Int) - 1).toNat = n - 1 := by omega
 have e4 : ((n : Int) - 2).toNat = n - 2 := by omega
 have e5 : IntKind.i64.wrap ((u0 : Int) * 1000000000) = (u0 : Int) * 1000000000 := IntWalk.i64_in _ (by omega)
 have e6 : IntKind.i64.wrap ((u0 : Int) * 1000000000 + u1) = (u0 : Int) * 1000000000 + u1 := IntWalk.i64_in _ (by omega)
 go_enter Tryz.func190, Tryz.ntmps190
 go_wp2_with fail
 go_quiet (fail)
 clear e5 e6
 go_wp2_with fail
 go_quiet (fail)
 go_upto_block 0 with (fail)
 rename_i nq1 nq2
 obtain ⟨V, hV⟩ : ∃ V, val vs = V := ⟨_, rfl⟩
 obtain ⟨U, hU⟩ : ∃ U, val ((us.drop j).take (n + 1)) = U := ⟨_, rfl⟩
 rw [hU, hV] at hE
 have HVU := hid (And.intro hU hV); clear hU hV
 go_cut [7] (fun gg wx => ∃ (G q : Nat), gg = .int .i64 G ∧ wx = w.drewN q ∧ G < 1000000000 ∧ Hid (U / V ≤ G ∧ G * V < U + V))
 case first =>
  go_wp2_with fail
  go_loopw [7, 8] (fun gg rr wr => ∃ G R q : Nat, gg = .int .i64 G ∧ rr = .int .i64 R ∧ wr = w.drewN q ∧ Hid (EstI U V u0 u1 v1 G R)) (fun gg _ _ => (intOf gg).toNat)
  case atStart =>
   exact ⟨_, _, _, by rw [Int.natCast_ediv]; rfl, by rw [Int.natCast_emod]; rfl, by rw [World.drewN_drewN], EstI.start hE.out⟩
  case round =>
   obtain ⟨G, R, q, rfl, rfl, rfl, hI⟩ := hrel
   have g2 := hI.out.g2; have r2 := hI.out.r2
   by_cases hR : R < 1000000000
   ·have q1 : decide ((R : Int) < 1000000000) = true := by simp; omega
    by_cases hG : 1000000000 ≤ G
    ·have q2 : decide ((1000000000 : Int) ≤ (G : Int)) = true := by simp; omega
     have HN := hid (hI.out.big hE.out hR hG)
     go_wp2_with fail
     go_big_quiet (fail)
     clear q1 q2
     go_wp2_with fail
     go_quiet (fail)
     go_wp2_with fail
     go_roundw
     case rel => exact ⟨G - 1, R + v1, _, by go_num, by go_num, by rw [World.drewN_drewN, World.drewN_drewN], HN⟩
     case measure => simp [intOf] <;> omega
    ·have q2 : decide ((1000000000 : Int) ≤ (G : Int)) = false := by simp; omega
     obtain ⟨p, hp⟩ : ∃ p, G * v2 = p := ⟨_, rfl⟩
     have hpb : p ≤ 999999999 * 999999999 := by rw [← hp]; exact Nat.mul_le_mul (by omega) (by omega)
     have HPI := hid (show ((G : Int) * (v2 : Int)) = (p : Int) from by rw [← Int.natCast_mul, hp])
     by_cases hT : R * 1000000000 + u2 < p
     ·have q3 : decide ((R : Int) * 1000000000 + u2 < (p : Int)) = true := by simp; omega
      have HN := hid (hI.out.less hE.out hR (by rw [hp]; exact hT))
      have hg0 := HN.out.2
      clear hp hT
      obtain ⟨x5, x6, x7⟩ : IntKind.i64.wrap ((G : Int) * (v2 : Int)) = (p : Int) ∧ IntKind.i64.wrap ((R : Int) * 1000000000) = (R : Int) * 1000000000 ∧ IntKind.i64.wrap ((R : Int) * 1000000000 + u2) = (R : Int) * 1000000000 + u2 := by
       refine ⟨by rw [HPI.out]; exact IntWalk.i64_in _ (by omega), IntWalk.i64_in _ (by omega), IntWalk.i64_in _ (by omega)⟩
      go_wp2_with fail
      go_big_quiet (fail)
      clear q1 q2 q3 x5 x6 x7
      go_wp2_with fail
      go_quiet (fail)
      go_wp2_with fail
      go_roundw
      case rel => exact ⟨G - 1, R + v1, _, by go_num, by go_num, by rw [World.drewN_drewN, World.drewN_drewN], HN.out.1⟩
      case measure => simp [intOf] <;> omega
     ·have q3 : decide ((R : Int) * 1000000000 + u2 < (p : Int)) = false := by simp; omega
      have HD := hid (hI.out.done hE.out (.inr ⟨by omega, by rw [hp]; omega⟩))
      have HQ := hid hI.out.q
      clear hp hT
      obtain ⟨x5, x6, x7⟩ : IntKind.i64.wrap ((G : Int) * (v2 : Int)) = (p : Int) ∧ IntKind.i64.wrap ((R : Int) * 1000000000) = (R : Int) * 1000000000 ∧ IntKind.i64.wrap ((R : Int) * 1000000000 + u2) = (R : Int) * 1000000000 + u2 := by
       refine ⟨by rw [HPI.out]; exact IntWalk.i64_in _ (by omega), IntWalk.i64_in _ (by omega), IntWalk.i64_in _ (by omega)⟩
      go_wp2_with fail
      go_big_quiet (fail)
      clear q1 q2 q3 x5 x6 x7
      go_wp2_with fail
      go_meet
      exact ⟨G, _, rfl, by rw [World.drewN_drewN], HD.out.1, HQ.out, HD.out.2⟩
   ·have q1 : decide ((R : Int) < 1000000000) = false := by simp; omega
    have HD := hid (hI.out.done hE.out (.inl (by omega)))
    have HQ := hid hI.out.q
    go_wp2_with fail
    go_big_quiet (fail)
    clear q1
    go_wp2_with fail
    go_meet
    exact ⟨G, _, rfl, by rw [World.drewN_drewN], HD.out.1, HQ.out, HD.out.2⟩
 case rest =>
  obtain ⟨G, q, rfl, rfl, hG, hQ⟩ := hcut
  have hE1 := hE
  clear a0 a1 a2 b1 b2 dz f1 f2 f3 f4 f5 f6 f7 f8 e1 e2 e3 e4 hE l0 l1 l2 l3 l4 l5
  go_wp2_with fail
  go_loopw [9, 10, 11, 12] (fun bb ii tt xx wr => ∃ (i c : Nat) (o : List Nat), bb = .int .i64 c ∧ ii = .int .i64 i ∧ i ≤ n ∧ Hid (MsubI us vs j n G i c o) ∧ Hid (Arr .i64 3 wr gu o) ∧ Hid (w.grownBy wr (some gu))) (fun _ ii _ _ _ => n - (intOf ii).toNat)
  case atStart => exact ⟨0, 0, us, rfl, rfl, Nat.zero_le _, MsubI.start HS.out.su, HU.out.drewN q, gb_drewN (World.grownBy.refl w _) q⟩
  case round =>
   obtain ⟨i, c, o, rfl, rfl, hin, hM, hO, hB⟩ := hrel
   have hol := hid hM.out.len
   have hcG := hM.out.c1
   by_cases hlt : i < n
   ·have d1 := hO.out.cell (getD_some (l := o) (i := j + i) (by rw [hol.out]; omega))
    have d4 := hO.out.free (j + i)
    have d2 := gb_cell hB.out (CV.out i hlt) hne
    have hvl := HS.out.sv.getD i
    have hul := HS.out.su.getD (j + i)
    rw [getD_drop_eq hM.out.hi] at d1
    obtain ⟨T, M, z, c', hT, hM1, hz, hc', z1, z2, z3, z4, z5, z6, z7, z8⟩ := ref_msub hul hcG hG hvl
    have HN := hid (hM.out.next (by omega) lu z1 z2 z3)
    obtain ⟨ui, hui⟩ : ∃ x, us.getD (j + i) 0 = x := ⟨_, rfl⟩
    obtain ⟨vi, hvi⟩ : ∃ x, vs.getD i 0 = x := ⟨_, rfl⟩
    rw [hui] at d1 hul hT; rw [hvi] at d2 hvl hT
    clear hui hvi z3
    obtain ⟨p, hp⟩ : ∃ p, G * vi = p := ⟨_, rfl⟩
    have hpb : p ≤ 999999999 * 999999999 := by rw [← hp]; exact Nat.mul_le_mul (by omega) (by omega)
    have HPI := hid (show ((G : Int) * (vi : Int)) = (p : Int) from by rw [← Int.natCast_mul, hp])
    rw [hp] at hT
    have HT := hid hT; have HM1 := hid hM1; have HZ := hid hz; have HC := hid hc'
    clear hp hT hM1 hz hc'
    have f1 : (0 : Int) ≤ (i : Int) := by omega
    have f2 : (i : Int) < (n : Int) := by omega
    have f3 : (i : Int) < (n : Int) + 1 := by omega
    obtain ⟨x5, x6, x7⟩ : IntKind.i64.wrap ((G : Int) * (vi : Int)) = (p : Int) ∧ IntKind.i64.wrap ((ui : Int) - c) = (ui : Int) - c ∧ IntKind.i64.wrap ((ui : Int) - c - p) = T := by
     refine ⟨by rw [HPI.out]; exact IntWalk.i64_in _ (by omega), IntWalk.i64_in _ (by omega), by rw [HT.out]; exact IntWalk.i64_in _ (by omega)⟩
    go_wp2_with fail
    go_quiet (fail)
    clear x5 x6 x7
    have y1 := HM1.out; have y2 := HZ.out; have y3 := HC.out
    go_wp2_with fail
    clear y1 y2 y3
    go_roundw
    case rel => exact ⟨i + 1, c', _, by rw [HC.out], by go_num, by omega, HN, (hO.out.drewN _).set (j + i) z, gb_set (gb_drewN hB.out _) _ _⟩
    case measure => simp [intOf] <;> omega
   ·obtain rfl : i = n := by omega
    have hg0 := getD_drop_eq hM.out.hi
    have d1 := hO.out.cell (getD_some (l := o) (i := j + i) (by rw [hol.out]; omega))
    have d4 := hO.out.free (j + i)
    rw [hg0, HU0.out] at d1
    have hV0 := hE1.out.pos
    have l0 := hE1.out.b0
    clear hg0
    by_cases hc : c ≤ u0
    ·obtain ⟨r1, r2, r3⟩ := hM.out.fits lu HS.out.lv HS.out.sv HVU.out.1 HVU.out.2 HU0.out hQ.out.1 hV0 hc
     have R1 := hid r1; have R3 := hid r3
     subst r2
     clear r1 r3 hc
     go_wp2_with fail
     refine wp_loop_rounds 1 ?_
     rw [rounds_succ]
     go_wp2_with fail
     go_ret
     refine ⟨ret_int (by rw [HVU.out.1, HVU.out.2, ← R1.out]), _, by rw [HVU.out.1, HVU.out.2]; exact R3.out, hO.out.set (j + i) 0, gb_set hB.out _ _⟩
    ·obtain ⟨hc1, hadd⟩ := hM.out.lacks lu HS.out.lv HS.out.sv HVU.out.1 HVU.out.2 HU0.out hQ.out.1 hQ.out.2 hV0 (by omega)
     have HADD := hid hadd
     have hsub : ((u0 : Int) - (c : Int)) = -1 := by omega
     have hcb : (c : Int) ≤ 1000000000 := by omega
     have HN := hid (hO.out.setN (j + i) (-1))
     have HG := hid (gb_set hB.out (j + i) (.int .i64 (-1)))
     clear hadd hc hc1
     go_wp2_with fail
     refine wp_loop_rounds 2 ?_
     rw [rounds_succ]
     clear hsub
     obtain ⟨wx, hwx⟩ : ∃ wx, wr.setCell ⟨gu, j + i, none⟩ (.int .i64 (-1)) = wx := ⟨_, rfl⟩
     rw [hwx] at HN HG ⊢
     clear hwx d1 d4
     have k1 := HN.out.self (m := j + i) (by rw [hol.out]; omega)
     go_wp2_with fail
     go_loopw [13, 14, 15] (fun cc ii tt wq => ∃ (y k : Nat) (p : List Nat), cc = .int .i64 k ∧ ii = .int .i64 y ∧ y ≤ i ∧ Hid (AddI o vs j y k p) ∧ Hid (ArrN .i64 3 wq gu p (j + i) (-1)) ∧ Hid (w.grownBy wq (some gu))) (fun _ ii _ _ => i - (intOf ii).toNat)
     case atStart => exact ⟨0, 0, o, rfl, rfl, Nat.zero_le _, AddI.start hM.out.sm, HN, HG⟩
     case round =>
      obtain ⟨y, k, p, rfl, rfl, hyi, hA, hP, hB2⟩ := hrel
      have hpl := hid (show p.length = us.length from by rw [hA.out.len, hol.out])
      by_cases hlt2 : y < i
      ·have d1 := hP.out.cell (i := j + y) (by omega) (getD_some (l := p) (i := j + y) (by rw [hpl.out]; omega))
       have d4 := hP.out.free (j + y)
       have d2 := gb_cell hB2.out (CV.out y hlt2) hne
       rw [getD_drop_eq hA.out.hi] at d1
       have HN2 := hid (hA.out.next hM.out.sm HS.out.sv (by rw [hol.out]; omega))
       have hvl := HS.out.sv.getD y
       have hul := hM.out.sm.getD (j + y)
       have hk1 := hA.out.k1
       obtain ⟨ui, hui⟩ : ∃ x, o.getD (j + y) 0 = x := ⟨_, rfl⟩
       obtain ⟨vi, hvi⟩ : ∃ x, vs.getD y 0 = x := ⟨_, rfl⟩
       rw [hui] at d1 hul; rw [hvi] at d2 hvl; rw [hui, hvi] at HN2
       clear hui hvi
       have f1 : (0 : Int) ≤ (y : Int) := by omega
       have f2 : (y : Int) < (i : Int) := by omega
       have f3 : (y : Int) < (i : Int) + 1 := by omega
       have hkI : (k : Int) ≤ 1 := by omega
       obtain ⟨x5, x6⟩ : IntKind.i64.wrap ((ui : Int) + vi) = (ui : Int) + vi ∧ IntKind.i64.wrap ((ui : Int) + vi + k) = (ui : Int) + vi + k := by
        refine ⟨IntWalk.i64_in _ (by omega), IntWalk.i64_in _ (by omega)⟩
       go_wp2_with fail
       go_quiet (fail)
       clear x5 x6
       go_wp2_with fail
       go_roundw
       case rel =>
        have hz : (((ui : Int) + vi + k) % 1000000000) = (((ui + vi + k) % 1000000000 : Nat) : Int) := by omega
        rw [hz]
        exact ⟨y + 1, _, _, by go_num, by go_num, by omega, HN2, (hP.out.drewN _).set (by omega) _, gb_set (gb_drewN hB2.out _) _ _⟩
       case measure => simp [intOf] <;> omega
      ·obtain rfl : y = i := by omega
       obtain ⟨r0, r1, r2, r3⟩ := HADD.out k p hA.out
       subst r0
       have R1 := hid r1; have R3 := hid r3
       have k1 := hP.out.self (m := j + y) (by rw [hpl.out]; omega)
       have k2 := hP.out.free (j + y)
       clear r1 r3
       go_wp2_with fail
       rw [rounds_succ]
       go_wp2_with fail
       go_ret
       refine ⟨ret_int (by rw [HVU.out.1, HVU.out.2, R1.out]; omega), _, by rw [HVU.out.1, HVU.out.2]; exact R3.out, hP.out.back 0, gb_set hB2.out _ _⟩
theorem divide_less (w : World) (v u : Value) (a b : Nat) (ha : IsN .i64 w v a) (hb : IsN .i64 w u b) (hlt : a < b) :
 Calls Tryz.prog 134 #[v, u] w fun e w' => RetNN .i64 (a / b) (a % b) e w' ∧ Below w.heap.size w w' := by
 have HA := hid ha; have HB := hid hb; have HL := hid (ordN_lt hlt); have HQ := hid (Nat.div_eq_of_lt hlt); have HR := hid (Nat.mod_eq_of_lt hlt)
 obtain ⟨a1, c1, rfl, _⟩ := ha.openI
 obtain ⟨a2, c2, rfl, _⟩ := hb.openI
 clear ha hb hlt
 go_enter Tryz.func134, Tryz.ntmps134
 go_wp2_with fail
 refine (r1_Order _ _ _ a b HA.out HB.out).mono ?_; rintro e w1 ⟨rfl, hb1⟩
 have B1 := hid hb1; clear hb1
 rw [HL.out]
 go_wp2_with fail
 go_ret2
 exact ⟨⟨_, _, rfl, by rw [HQ.out]; exact IsN.zero _ _, by rw [HR.out]; exact HA.out.call B1.out⟩, B1.out⟩
theorem divide_one (w : World) (v u : Value) (a b : Nat) (ha : IsN .i64 w v a) (hb : IsN .i64 w u b) (hle : b ≤ a) (h0 : 0 < b) (h1 : b < 1000000000) (hla : (limbs a).length ≤ 1000000) :
 Calls Tryz.prog 134 #[v, u] w fun e w' => RetNN .i64 (a / b) (a % b) e w' ∧ Below w.heap.size w w' := by
 have HA := hid ha; have HB := hid hb
 have hord : ordN a b = 0 ∨ ordN a b = 1 := by
  unfold ordN; split
  ·omega
  ·split <;> simp
 obtain ⟨a1, c1, rfl, h1', _⟩ := ha.openI
 obtain ⟨a2, c2, rfl, h2', h3', h4'⟩ := hb.openI
 have hl1 : limbs b = [b] := limbs_small h0 h1
 obtain ⟨g, o, rfl, hg, hc⟩ := h4' 0 b (by rw [hl1]; rfl)
 rw [Nat.add_zero] at hc
 have HC := hid hc
 have hlen : (limbs b).length = 1 := by rw [hl1]; rfl
 rw [hlen] at HB h2' ⊢
 clear ha hb hc h4' hl1 hlen
 go_enter Tryz.func134, Tryz.ntmps134
 go_wp2_with fail
 refine (r1_Order _ _ _ a b HA.out HB.out).mono ?_; rintro e w1 ⟨rfl, hb1⟩
 have d1 := (hb1.cell (p := ⟨g, o, none⟩) hg).trans HC.out
 have B1 := hid hb1; clear hb1
 obtain ⟨t, ht⟩ : ∃ t, ordN a b = t := ⟨_, rfl⟩
 rw [ht] at hord ⊢
 have q0 : decide (t < 0) = false := by simp; omega
 clear ht hord
 go_wp2_with fail
 refine (r1_short _ _ a b (HA.out.call B1.out) h0 h1 hla).mono ?_; rintro e w2 ⟨⟨v2, rfl, hv2⟩, hb2⟩
 have B2 := hid hb2; have V2 := hid hv2; clear hb2 hv2
 have hrb : a % b < 1000000000 := Nat.lt_trans (Nat.mod_lt a h0) h1
 go_wp2_with fail
 refine (r1_trim _ _ [a % b] (Sm.cons hrb Sm.nil) ?_).mono ?_
 ·exact Row.of_blk (b := w2.heap.size) (n := 1) (c := 1) (cs := #[.int .i64 ((a % b : Nat) : Int)]) (Blk.new w2 _ _) rfl (by unfold maxLen; omega) (fun i x hx => by simpa [ints] using hx) (Nat.le_refl _) (by unfold maxLen; omega)
 ·rintro e w3 ⟨⟨v3, rfl, hv3⟩, rfl⟩
  have V3 := hid hv3; clear hv3
  go_wp2_with fail
  go_ret2
  have hb3 : Below w2.heap.size w2 (w2.alloc (.cells #[.int .i64 ((a % b : Nat) : Int)] 3)) := (Below.refl _ _).alloc (Nat.le_refl _) _
  refine ⟨⟨_, _, rfl, V2.out.call hb3, ?_⟩, bnext (bnext B1.out B2.out) hb3⟩
  have := V3.out
  rwa [show val [a % b] = a % b by simp [val_cons]] at this
theorem divide_many (w : World) (v u : Value) (a b m : Nat) (ha : IsN .i64 w v a) (hb : IsN .i64 w u b) (hle : b ≤ a) (hn : (limbs b).length = m) (hm2 : 2 ≤ m) (hla : (limbs a).length ≤ 1000000) :
 Calls Tryz.prog 134 #[v, u] w fun e w' => RetNN .i64 (a / b) (a % b) e w' ∧ Below w.heap.size w w' := by
 have HA := hid ha; have HB := hid hb
 have hord : ordN a b = 0 ∨ ordN a b = 1 := by
  unfold ordN; split
  ·omega
  ·split <;> simp
 have hmn := limbs_length_mono hle
 obtain ⟨a1, c1, rfl, h1', _⟩ := ha.openI
 obtain ⟨a2, c2, rfl, h2', h3', h4'⟩ := hb.openI
 obtain ⟨x, hx⟩ : ∃ x, (limbs b)[m - 1]? = some x := ⟨_, List.getElem?_eq_getElem (by omega)⟩
 obtain ⟨g, o, rfl, hg, hc⟩ := h4' (m - 1) x hx
 have HC := hid hc
 have hn1 : (limbs b).length = (m - 1) + 1 := by omega
 obtain ⟨s1, s2, s3⟩ := scale_len hn1 hx
 obtain ⟨t1, t2, _⟩ := top_limb hn1 hx
 obtain ⟨d, hd⟩ : ∃ d, 1000000000 / (x + 1) = d := ⟨_, rfl⟩
 rw [hd] at s1 s2 s3
 have HS := hid (show (limbs (b * d)).length = m by omega)
 have hdI := hid (show ((1000000000 : Int) / ((x : Int) + 1)) = (d : Int) from by rw [← hd]; rfl)
 rw [hn] at h2' hmn ⊢
 obtain ⟨L, hL⟩ : ∃ L, (limbs a).length = L := ⟨_, rfl⟩
 rw [hL] at hmn h1' ⊢
 have hla' : L ≤ 1000000 := by omega
 have HL := hid hL; have HN := hid hn; have HLA := hid hla; have HLE := hid hle
 rw [hL] at HA; rw [hn] at HB
 obtain ⟨K, hK⟩ : ∃ K, K = L + 1 - m := ⟨_, rfl⟩
 have hKI := hid (show ((L : Int) + 1 - (m : Int)) = (K : Int) by omega)
 have hKL : K + m = L + 1 := by omega
 have hmk := hid (fun W => make_limbs K (by omega) W)
 clear ha hb hc h4' hx hd s1 hL hn hla hle hn1 hK
 go_enter Tryz.func134, Tryz.ntmps134
 go_wp2_with fail
 refine (r1_Order _ _ _ a b HA.out HB.out).mono ?_; rintro e w1 ⟨rfl, hb1⟩
 have d1 := (hb1.cell (p := ⟨g, o + (m - 1), none⟩) hg).trans HC.out
 have B1 := hid hb1; clear hb1
 obtain ⟨t, ht⟩ : ∃ t, ordN a b = t := ⟨_, rfl⟩
 rw [ht] at hord ⊢
 have q0 : decide (t < 0) = false := by simp; omega
 clear ht hord
 go_wp2_with fail
 rw [hdI.out]
 refine (r1_scaled _ _ a d (HA.out.call B1.out) s3 HLA.out).mono ?_; rintro e w2 ⟨⟨gu, ou, rfl, hgu, hAu, lu, su, vu⟩, hb2⟩
 have B2 := hid (bnext B1.out hb2); have AU := hid hAu; have LU := hid lu; have SU := hid su; have VU := hid vu
 have hul := hAu.lt
 rw [HL.out] at LU ⊢
 clear hAu lu su vu d1
 go_wp2_with fail
 refine (r1_scaled _ _ b d (HB.out.call B2.out) s3 (by rw [HN.out]; omega)).mono ?_; rintro e w3 ⟨⟨gv, ov, rfl, hgv, hAv, lv, sv, vv⟩, hb3⟩
 have B3 := hid (bnext B2.out hb3); have AU3 := hid (AU.out.call hb3)
 have hne : gv ≠ gu := by omega
 have LV := hid lv; have VV := hid vv; have SV := hid sv
 clear lv vv sv
 go_wp2_with fail
 rw [← LV.out]
 refine (r1_trim_at _ _ _ ov SV.out (by have := hAv.row (n := ov.length) (c := ov.length) (Nat.le_refl _) (Nat.le_refl _) (by rw [LV.out, HN.out]; unfold maxLen; omega); rwa [List.take_of_length_le (Nat.le_refl _)] at this)).mono ?_
 rintro e w4 ⟨⟨m', rfl, hm'⟩, rfl⟩
 rw [VV.out] at hm'
 have hmm : m' = m := by have := hm'.len.1; rw [ints_length, HS.out] at this; exact this
 subst hmm
 have RV := hid hm'
 have hvl := hAv.lt
 clear hAv hm' AU
 have y1 := hKI.out; have y2 := hmk.out
 go_wp2_with fail
 clear y1 y2
 have hV := hid (val_limbs (b * d))
 have D0 := hid (show DivI (a * d) (b * d) m' (L + 1) K ou (List.replicate K 0) from by
  have h1 : 1000000000 ^ (m' - 1) ≤ b := limbs_lt_length.1 (by rw [HN.out]; omega)
  have h2 : b * d ≤ 1000000000 ^ m' := Nat.le_of_lt (limbs_length_le.1 (by rw [HS.out]; exact Nat.le_refl _))
  have h3 : a < 1000000000 ^ L := limbs_length_le.1 (by rw [HL.out]; exact Nat.le_refl _)
  have := DivI.start (U := a * d) (V := b * d) (n := m') h2 SU.out LU.out (by omega) VU.out (scaled_top LU.out VU.out h3 (by omega) (by omega) h1 s2)
  rwa [show L + 1 - m' = K by omega] at this)
 go_loopw [13] (fun jj wr => ∃ (k : Nat) (t : Int) (o Q : List Nat), jj = .int .i64 t ∧ t = (k : Int) - 1 ∧ k ≤ K ∧ Hid (DivI (a * d) (b * d) m' (L + 1) k o Q) ∧ Hid (Arr .i64 3 wr gu o) ∧ Hid (Arr .i64 3 wr w3.heap.size Q) ∧ Hid (Row wr (.slice (some ⟨gv, 0, none⟩) m' ov.length) (ints .i64 (limbs (b * d)))) ∧ Hid (Below w.heap.size w wr)) (fun jj _ => (intOf jj + 1).toNat)
 case atStart =>
  have ha : Below w3.heap.size w3 (w3.alloc (.cells (madeCells #[.int .i64 0] K) 3)) := (Below.refl _ _).alloc (Nat.le_refl _) _
  exact ⟨K, _, ou, _, rfl, rfl, Nat.le_refl _, D0, AU3.out.call ha, Arr.made w3 .i64 3 K, RV.out.call ha, bnext B3.out ha⟩
 case round =>
  obtain ⟨k, t, o2, Q, rfl, ht, hk, hD, hU, hQ, hR, hB⟩ := hrel
  have hol := hid hD.out.lo
  have hql := hid (show Q.length = K from by rw [hD.out.lq]; omega)
  cases k with
  | zero =>
   obtain rfl : t = -1 := by omega
   clear ht
   obtain ⟨r1, r2, r3⟩ := hD.out.done (by omega)
   have hfin := hid (div_end (a := a) (b := b) s2 r1 r2)
   have R3 := hid r3
   have hlen : (limbs (val (o2.take m'))).length ≤ 1000000 := by
    rw [r3]
    have := limbs_length_mono (Nat.le_of_lt r2)
    rw [HS.out] at this
    omega
   clear r1 r2 r3
   go_wp2_with fail
   refine (r1_trim _ _ (o2.take m') (hD.out.so.take _) (hU.out.row (by rw [hol.out]; omega) (by omega) (by unfold maxLen; omega))).mono ?_
   rintro e w5 ⟨⟨v5, rfl, hv5⟩, rfl⟩
   go_wp2_with fail
   refine (r1_short _ v5 _ d hv5 s2 s3 hlen).mono ?_
   rintro e w6 ⟨⟨v6, rfl, hv6⟩, hb6⟩
   have V6 := hid hv6; have B6 := hid hb6; have Q6 := hid (hQ.out.call hb6)
   clear hv5 hv6 hb6
   go_wp2_with fail
   refine (r1_trim _ _ Q hD.out.sq (by have := Q6.out.row (n := K) (c := K) (by rw [hql.out]; exact Nat.le_refl _) (Nat.le_refl _) (by unfold maxLen; omega); rwa [List.take_of_length_le (by rw [hql.out]; exact Nat.le_refl _)] at this)).mono ?_
   rintro e w7 ⟨⟨v7, rfl, hv7⟩, rfl⟩
   go_wp2_with fail
   go_ret2
   refine ⟨⟨v7, v6, rfl, by rw [← hfin.out.1]; exact hv7, ?_⟩, bnext hB.out B6.out⟩
   have := V6.out
   rwa [R3.out, hfin.out.2] at this
  | succ j =>
   obtain rfl : t = (j : Int) := by omega
   clear ht
   have hS := hid (show StepIn o2 (limbs (b * d)) j m' from ⟨hm2, by omega, HS.out, by rw [hol.out]; omega, by rw [hol.out]; omega, hD.out.so, sm_limbs _, limbs_top (n := m' - 1) (by rw [HS.out]; omega), by rw [hV.out]; exact hD.out.win (by omega)⟩)
   obtain ⟨z, hz⟩ : ∃ z, Q[j]? = some z := ⟨_, List.getElem?_eq_getElem (by rw [hql.out]; omega)⟩
   have hgq : w3.heap.size ≠ gu := by omega
   have hgw : w.heap.size ≤ gu := Nat.le_trans B1.out.size hgu
   have hqw : w.heap.size ≤ w3.heap.size := B3.out.size
   go_wp2_with fail
   rw [show j + m' + 1 - j = m' + 1 by omega]
   refine (r1_step _ gu j _ o2 gv 0 _ (limbs (b * d)) m' hS.out hU.out hR.out hne).mono ?_
   rintro e w5 ⟨he, o5, hw5, hA5, hg5⟩
   rw [hV.out] at he hw5
   have HN5 := hid (hD.out.next (by omega) hw5)
   obtain ⟨qv, hqv⟩ : ∃ q, val ((o2.drop j).take (m' + 1)) / (b * d) = q := ⟨_, rfl⟩
   rw [hqv] at he HN5
   subst he
   have Q5 := hid (hQ.out.gb hg5 hgq)
   have R5 := hid (hR.out.gb hg5 hne)
   have B5 := hid (below_gb hB.out hB.out.size hg5 hgw)
   have A5 := hid hA5
   have d3 := Q5.out.cell hz
   have d4 := Q5.out.free j
   clear hw5 hA5 hg5 hqv hz
   go_wp2_with fail
   go_roundw
   case rel =>
    have hs : Below w5.heap.size w5 w5 := Below.refl _ _
    have hset : w5.grownBy (w5.setCell ⟨w3.heap.size, j, none⟩ (.int .i64 (qv : Int))) (some w3.heap.size) := gb_set (World.grownBy.refl _ _) _ _
    exact ⟨j, _, o5, _, rfl, rfl, by omega, HN5, A5.out.gb hset (fun e => hgq e.symm), Q5.out.set j qv, R5.out.gb hset (by omega), below_set B5.out hqw _⟩
   case measure => simp [intOf] <;> omega
theorem r1_Divide (w : World) (v u : Value) (a b : Nat) (ha : IsN .i64 w v a) (hb : IsN .i64 w u b) (h0 : 0 < b) (hla : (limbs a).length ≤ 1000000) :
 Calls Tryz.prog 134 #[v, u] w fun e w' => RetNN .i64 (a / b) (a % b) e w' ∧ Below w.heap.size w w' := by
 by_cases hlt : a < b
 ·exact divide_less w v u a b ha hb hlt
 ·by_cases h1 : b < 1000000000
  ·exact divide_one w v u a b ha hb (by omega) h0 h1 hla
  ·refine divide_many w v u a b _ ha hb (by omega) rfl ?_ hla
   have : 1 < (limbs b).length := limbs_lt_length.2 (by omega)
   omega
theorem r1_Common (w : World) (v u : Value) (a b : Nat) (ha : IsN .i64 w v a) (hb : IsN .i64 w u b) (hla : (limbs a).length ≤ 1000000) (hlb : (limbs b).length ≤ 1000000) :
 Calls Tryz.prog 133 #[v, u] w fun e w' => RetN .i64 (Nat.gcd a b) e w' ∧ Below w.heap.size w w' := by
 have HA := hid ha; have HB := hid hb; have LA := hid hla; have LB := hid hlb
 clear ha hb hla hlb
 go_enter Tryz.func133, Tryz.ntmps133
 go_wp2_with fail
 go_loopw [0, 1, 5, 6] (fun x y q r wr => ∃ m n : Nat, Hid (IsN .i64 wr x m) ∧ Hid (IsN .i64 wr y n) ∧ Hid ((limbs m).length ≤ 1000000) ∧ Hid ((limbs n).length ≤ 1000000) ∧ Hid (Nat.gcd m n = Nat.gcd a b) ∧ Hid (Below w.heap.size w wr))
  (fun x y q r wr => numOf .i64 wr y)
 case atStart => exact ⟨a, b, HA, HB, LA, LB, rfl, Below.refl _ _⟩
 case round =>
  obtain ⟨m, n, hx, hy, hm, hn, hg, hB⟩ := hrel
  have hnum := hid (numOf_eq hy.out)
  obtain ⟨a1, c1, rfl, h1, h1', h1''⟩ := hx.out.openI
  obtain ⟨a2, c2, rfl, h2, h2', h2''⟩ := hy.out.openI
  clear h1'' h2''
  by_cases h0 : n = 0
  ·subst h0
   have hl : (limbs 0).length = 0 := by rw [limbs_zero]; rfl
   rw [hl] at *
   clear hl
   go_wp2_with fail
   go_ret
   exact ⟨⟨_, rfl, by rw [← hg.out, Nat.gcd_zero_right]; exact hx.out⟩, hB.out⟩
  ·have hpos : 0 < (limbs n).length := List.length_pos_iff.2 (fun e => h0 (limbs_nil.1 e))
   have q0 : decide ((0 : Int) < ((limbs n).length : Int)) = true := by simp; omega
   go_wp2_with fail
   refine (r1_Divide _ _ _ m n hx.out hy.out (by omega) hm.out).mono ?_
   rintro e w1 ⟨⟨v1, v2, rfl, hv1, hv2⟩, hb1⟩
   have V2 := hid hv2; have B1 := hid (bnext hB.out hb1); have Y1 := hid (hy.out.call hb1)
   have hlt := hid (Nat.mod_lt m (y := n) (by omega))
   have hll := hid (show (limbs (m % n)).length ≤ 1000000 from Nat.le_trans (limbs_length_mono (Nat.le_of_lt hlt.out)) hn.out)
   have hgg := hid (show Nat.gcd n (m % n) = Nat.gcd a b from by rw [← hg.out, Nat.gcd_comm m n, Nat.gcd_rec n m, Nat.gcd_comm]) 
   clear hv1 hv2 hb1
   go_wp2_with fail
   go_roundw
   case rel => exact ⟨n, m % n, Y1, V2, hn, hll, hgg, B1⟩
   case measure => rw [numOf_eq V2.out, hnum.out]; exact hlt.out
open Go.Lib (decDigits nDigits)
theorem r2_one (w : World) : Calls Tryz.prog 75 #[] w fun e w' => RetN .i64 1 e w' ∧ Below w.heap.size w w' := by
 have H1 := hid (isN_one w)
 go_enter Tryz.func75, Tryz.ntmps75
 go_wp2_with fail
 go_ret
 exact ⟨⟨_, rfl, H1.out⟩, (Below.refl _ _).alloc (Nat.le_refl _) _⟩
theorem r2_Reduce (w : World) (m : Bool) (v u : Value) (n d : Nat) (hn : IsN .i64 w v n) (hd : IsN .i64 w u d) (h0 : 0 < d) (hln : (limbs n).length ≤ 1000000) (hld : (limbs d).length ≤ 1000000) :
 Calls Tryz.prog 86 #[.bool m, v, u] w fun e w' => RetQ .i64 (qmk m n d) e w' ∧ Below w.heap.size w w' := by
 have HN := hid hn; have HD := hid hd
 obtain ⟨a1, c1, rfl, _⟩ := hn.openI
 obtain ⟨a2, c2, rfl, _⟩ := hd.openI
 clear hn hd
 rcases Nat.eq_zero_or_pos n with rfl | hp
 ·have hl : (limbs 0).length = 0 := by rw [limbs_zero]; rfl
  rw [hl] at HN ⊢
  have hq := hid (qmk_zero m d)
  rw [hq.out]
  clear hl
  go_enter Tryz.func86, Tryz.ntmps86
  go_wp2_with fail
  refine (r2_one _).mono ?_; rintro e w1 ⟨⟨v1, rfl, hv1⟩, hb1⟩
  obtain ⟨a3, c3, rfl, _⟩ := hv1.openI
  have HV := hid hv1
  have HB := hid (show Blk w1 w.heap.size #[.bool false, .slice none 0 0, .slice none 0 0] 83 from (Blk.new w _ _).call hb1)
  have d0 := HB.out.cell 0
  have d1 := HB.out.cell 1
  have d2 := HB.out.cell 2
  have e0 := HB.out.free 0
  have e1 := HB.out.free 1
  have e2 := HB.out.free 2
  have HBB := hid hb1
  clear hb1 hv1
  simp at d0 d1 d2
  go_wp2_with fail
  obtain ⟨s1, s2⟩ := set3 HB.out false none a3 0 0 (limbs 1).length c3
  have f0 := s2.cell 0
  have f1 := s2.cell 1
  have f2 := s2.cell 2
  simp at f0 f1 f2
  refine bodyPost_ret (v := .agg #[.bool false, .slice none 0 0, .slice a3 (limbs 1).length c3]) (by simp [results, Tryz.results86, go_sem, f0, f1, f2]) rfl ⟨⟨_, rfl, IsQ.zero_ (s1 _ _ _ (IsN.zero _ _)) (s1 _ _ _ HV.out)⟩, ?_⟩
  exact (((((Below.refl _ _).alloc (Nat.le_refl _) _).trans (HBB.out.mono (by simp))).setCell (Nat.le_refl _) _).setCell (Nat.le_refl _) _).setCell (Nat.le_refl _) _
 ·have hpos : 0 < (limbs n).length := List.length_pos_iff.2 (fun e => by have := limbs_nil.1 e; omega)
  have q0 : (((limbs n).length : Int) == 0) = false := beq_eq_false_iff_ne.2 (by omega)
  obtain ⟨g, hg⟩ : ∃ g, Nat.gcd n d = g := ⟨_, rfl⟩
  have hgp : 0 < g := hg ▸ Nat.gcd_pos_of_pos_left d hp
  have HG := hid hg; have HGP := hid hgp; have HP := hid hp; have H0 := hid h0; have HLN := hid hln; have HLD := hid hld
  clear hg hgp hp h0 hln hld hpos
  go_enter Tryz.func86, Tryz.ntmps86
  go_wp2_with fail
  refine (r1_Common _ _ _ n d (HN.out.call ((Below.refl _ _).alloc (Nat.le_refl _) _)) (HD.out.call ((Below.refl _ _).alloc (Nat.le_refl _) _)) HLN.out HLD.out).mono ?_
  rintro e w1 ⟨⟨v1, rfl, hv1⟩, hb1⟩
  rw [HG.out] at hv1
  have HB1 := hid (show Blk w1 w.heap.size #[.bool false, .slice none 0 0, .slice none 0 0] 83 from (Blk.new w _ _).call hb1)
  have B1 := hid (((Below.refl w.heap.size w).alloc (Nat.le_refl _) (.cells #[.bool false, .slice none 0 0, .slice none 0 0] 83)).trans (hb1.mono (by simp)))
  have N1 := hid (HN.out.call B1.out); have D1 := hid (HD.out.call B1.out); have G1 := hid hv1
  clear hb1 hv1
  go_wp2_with fail
  refine (r1_Divide _ _ _ n g N1.out G1.out HGP.out HLN.out).mono ?_
  rintro e w2 ⟨⟨v2, v3, rfl, hv2, -⟩, hb2⟩
  have HB2 := hid (HB1.out.call hb2); have B2 := hid (bnext B1.out hb2); have D2 := hid (D1.out.call hb2); have G2 := hid (G1.out.call hb2); have V2 := hid hv2
  clear hb2 hv2
  go_wp2_with fail
  refine (r1_Divide _ _ _ d g D2.out G2.out HGP.out HLD.out).mono ?_
  rintro e w3 ⟨⟨v4, v5, rfl, hv4, -⟩, hb3⟩
  have HB3 := hid (HB2.out.call hb3); have B3 := hid (bnext B2.out hb3); have W2 := hid (V2.out.call hb3); have W4 := hid hv4
  clear hb3 hv4
  obtain ⟨a3, c3, rfl, _⟩ := W2.out.openI
  obtain ⟨a4, c4, rfl, _⟩ := W4.out.openI
  have d0 := HB3.out.cell 0
  have d1 := HB3.out.cell 1
  have d2 := HB3.out.cell 2
  have e0 := HB3.out.free 0
  have e1 := HB3.out.free 1
  have e2 := HB3.out.free 2
  simp at d0 d1 d2
  go_wp2_with fail
  obtain ⟨s1, s2⟩ := set3 HB3.out m a3 a4 (limbs (n / g)).length c3 (limbs (d / g)).length c4
  have f0 := s2.cell 0
  have f1 := s2.cell 1
  have f2 := s2.cell 2
  simp at f0 f1 f2
  refine bodyPost_ret (v := .agg #[.bool m, .slice a3 (limbs (n / g)).length c3, .slice a4 (limbs (d / g)).length c4]) (by simp [results, Tryz.results86, go_sem, f0, f1, f2]) rfl ⟨⟨_, rfl, IsQ.mk' HP.out H0.out (HG.out ▸ s1 _ _ _ W2.out) (HG.out ▸ s1 _ _ _ W4.out)⟩, ?_⟩
  exact ((B3.out.setCell (Nat.le_refl _) _).setCell (Nat.le_refl _) _).setCell (Nat.le_refl _) _
end Go.Proofs.YtgphopkifomffaaGreatDoor
namespace Go.Proofs.YtgphopkifomffaaGreatDoor
open Go.RowKit
theorem r1_PlusF (w : World) (v u : Value) (a b : Nat) (ha : IsN .i64 w v a) (hb : IsN .i64 w u b) (hla : (limbs a).length ≤ 1000000) (hlb : (limbs b).length ≤ 1000000) :
 Calls Tryz.prog 73 #[v, u] w fun e w' => RetFr w.heap.size .i64 (a + b) e w' ∧ Below w.heap.size w w' := by
 obtain ⟨i0, hi, hz0, hz1, hz2⟩ := info_parts info_int
 obtain ⟨a1, c1, rfl, h1, h2, h3⟩ := ha.openI
 obtain ⟨a2, c2, rfl, k1, k2, k3⟩ := hb.openI
 have H3 := hid h3; have K3 := hid k3; clear h3 k3 ha hb
 obtain ⟨n, ea⟩ : ∃ n, (limbs a).length = n := ⟨_, rfl⟩
 obtain ⟨m, eb⟩ : ∃ m, (limbs b).length = m := ⟨_, rfl⟩
 rw [ea] at h1 hla ⊢
 rw [eb] at k1 hlb ⊢
 have HA := hid ea; have HB := hid eb
 clear ea eb
 go_enter Tryz.func73, Tryz.ntmps73
 go_wp2_with fail
 go_loopw [5, 6, 7] (fun o cc i wr => ∃ (s : List Nat) (c : Nat) (C : Int), i = .int .i64 s.length ∧ cc = .int .i64 C ∧ C = (c : Int) ∧ c ≤ 1 ∧ s.length ≤ 1000001 ∧ (s.length ≤ n ∨ s.length ≤ m ∨ c = 0) ∧ Hid (PlusI a b s c) ∧ Hid (wr.ownsRow w.heap.size 3 1 o s.length (ints .i64 s)) ∧ Hid (Below w.heap.size w wr))
  (fun _ _ i _ => 1000002 - (intOf i).toNat)
 case atStart => exact ⟨[], 0, 0, rfl, rfl, rfl, by omega, by simp, .inl (by simp), PlusI.start a b, World.ownsRow_nil _ _ _ _, Below.refl _ _⟩
 case round =>
  obtain ⟨s, c, C, rfl, rfl, hC, hc1, hs1, hs2, hP, hO, hB⟩ := hrel
  obtain ⟨ao, co, rfl⟩ := owns_ex hO.out
  by_cases hA : s.length < n
  ·obtain ⟨x, hx⟩ : ∃ x, (limbs a)[s.length]? = some x := ⟨_, List.getElem?_eq_getElem (by rw [HA.out]; exact hA)⟩
   obtain ⟨g, og, rfl, hg, hc⟩ := H3.out _ x hx
   have hc' := (hB.out.cell (p := ⟨g, og + s.length, none⟩) hg).trans hc
   have hxl := (sm_limbs a).get hx
   have HX := hid hx; clear hx hc
   by_cases hB' : s.length < m
   ·obtain ⟨y, hy⟩ : ∃ y, (limbs b)[s.length]? = some y := ⟨_, List.getElem?_eq_getElem (by rw [HB.out]; exact hB')⟩
    obtain ⟨g', og', rfl, hg', hd⟩ := K3.out _ y hy
    have hd' := (hB.out.cell (p := ⟨g', og' + s.length, none⟩) hg').trans hd
    have hyl := (sm_limbs b).get hy
    have HY := hid hy; clear hy hd
    rcases (show c = 0 ∨ c = 1 by omega) with rfl | rfl
    ·obtain rfl : C = 0 := by omega
     clear hC
     have HN := hid (hP.out.next (by rw [HA.out]; exact .inl hA))
     rw [getD_of HX.out, getD_of HY.out] at HN
     go_wp2_with (at_builtin; refine wpList_append_own _ rfl _ _ 80 rfl w.heap.size 3 i0 (.int .i64 0) 1 8 Tryz.underlying80 hi hz0 hz1 hz2 rfl (by decide) _ s.length _ rfl (hO.out.alloc _) ⟨wr.heap.size, 0, none⟩ 1 1 [.int .i64 ((↑x + ↑y : Int) % 1000000000)] rfl rfl (cell_one_new wr (.int .i64 ((↑x + ↑y : Int) % 1000000000)) 3) (by simp [Value.oneCell']) (by unfold maxLen; omega) (by omega) (by have := hB.out.size; simp; omega) ?_; intro v' w3 hown3 hgrow3 _; have HO3 := hid hown3; have HG3 := hid hgrow3; clear hown3 hgrow3)
     have hz : ((↑x + ↑y : Int) % 1000000000) = (((x + 0 + y) % 1000000000 : Nat) : Int) := by omega
     rw [hz] at HO3
     obtain ⟨n1, n2⟩ := own_next hO.out hB.out HO3.out HG3.out
     have N1 := hid n1; have N2 := hid n2; clear n1 n2 hz HO3 HG3
     obtain ⟨a3, k3, rfl⟩ := owns_ex N1.out
     go_wp2_with fail
     go_roundw
     case rel => exact ⟨s ++ [(x + 0 + y) % 1000000000], (x + 0 + y) / 1000000000, _, by simp, rfl, by omega, HN.out.c1, by simp <;> omega, by simp <;> omega, HN, N1, N2⟩
     case measure => simp [intOf] <;> omega
    ·obtain rfl : C = 1 := by omega
     clear hC
     have HN := hid (hP.out.next (by rw [HA.out]; exact .inl hA))
     rw [getD_of HX.out, getD_of HY.out] at HN
     go_wp2_with (at_builtin; refine wpList_append_own _ rfl _ _ 80 rfl w.heap.size 3 i0 (.int .i64 0) 1 8 Tryz.underlying80 hi hz0 hz1 hz2 rfl (by decide) _ s.length _ rfl (hO.out.alloc _) ⟨wr.heap.size, 0, none⟩ 1 1 [.int .i64 ((1 + ↑x + ↑y : Int) % 1000000000)] rfl rfl (cell_one_new wr (.int .i64 ((1 + ↑x + ↑y : Int) % 1000000000)) 3) (by simp [Value.oneCell']) (by unfold maxLen; omega) (by omega) (by have := hB.out.size; simp; omega) ?_; intro v' w3 hown3 hgrow3 _; have HO3 := hid hown3; have HG3 := hid hgrow3; clear hown3 hgrow3)
     have hz : ((1 + ↑x + ↑y : Int) % 1000000000) = (((x + 1 + y) % 1000000000 : Nat) : Int) := by omega
     rw [hz] at HO3
     obtain ⟨n1, n2⟩ := own_next hO.out hB.out HO3.out HG3.out
     have N1 := hid n1; have N2 := hid n2; clear n1 n2 hz HO3 HG3
     obtain ⟨a3, k3, rfl⟩ := owns_ex N1.out
     go_wp2_with fail
     go_roundw
     case rel => exact ⟨s ++ [(x + 1 + y) % 1000000000], (x + 1 + y) / 1000000000, _, by simp, rfl, by omega, HN.out.c1, by simp <;> omega, by simp <;> omega, HN, N1, N2⟩
     case measure => simp [intOf] <;> omega
   ·skip
    rcases (show c = 0 ∨ c = 1 by omega) with rfl | rfl
    ·obtain rfl : C = 0 := by omega
     clear hC
     have HN := hid (hP.out.next (by rw [HA.out]; exact .inl hA))
     rw [getD_of HX.out, getD_none (by rw [HB.out]; omega)] at HN
     go_wp2_with (at_builtin; refine wpList_append_own _ rfl _ _ 80 rfl w.heap.size 3 i0 (.int .i64 0) 1 8 Tryz.underlying80 hi hz0 hz1 hz2 rfl (by decide) _ s.length _ rfl (hO.out.alloc _) ⟨wr.heap.size, 0, none⟩ 1 1 [.int .i64 ((↑x : Int) % 1000000000)] rfl rfl (cell_one_new wr (.int .i64 ((↑x : Int) % 1000000000)) 3) (by simp [Value.oneCell']) (by unfold maxLen; omega) (by omega) (by have := hB.out.size; simp; omega) ?_; intro v' w3 hown3 hgrow3 _; have HO3 := hid hown3; have HG3 := hid hgrow3; clear hown3 hgrow3)
     have hz : ((↑x : Int) % 1000000000) = (((x + 0 + 0) % 1000000000 : Nat) : Int) := by omega
     rw [hz] at HO3
     obtain ⟨n1, n2⟩ := own_next hO.out hB.out HO3.out HG3.out
     have N1 := hid n1; have N2 := hid n2; clear n1 n2 hz HO3 HG3
     obtain ⟨a3, k3, rfl⟩ := owns_ex N1.out
     go_wp2_with fail
     go_roundw
     case rel => exact ⟨s ++ [(x + 0 + 0) % 1000000000], (x + 0 + 0) / 1000000000, _, by simp, rfl, by omega, HN.out.c1, by simp <;> omega, by simp <;> omega, HN, N1, N2⟩
     case measure => simp [intOf] <;> omega
    ·obtain rfl : C = 1 := by omega
     clear hC
     have HN := hid (hP.out.next (by rw [HA.out]; exact .inl hA))
     rw [getD_of HX.out, getD_none (by rw [HB.out]; omega)] at HN
     go_wp2_with (at_builtin; refine wpList_append_own _ rfl _ _ 80 rfl w.heap.size 3 i0 (.int .i64 0) 1 8 Tryz.underlying80 hi hz0 hz1 hz2 rfl (by decide) _ s.length _ rfl (hO.out.alloc _) ⟨wr.heap.size, 0, none⟩ 1 1 [.int .i64 ((1 + ↑x : Int) % 1000000000)] rfl rfl (cell_one_new wr (.int .i64 ((1 + ↑x : Int) % 1000000000)) 3) (by simp [Value.oneCell']) (by unfold maxLen; omega) (by omega) (by have := hB.out.size; simp; omega) ?_; intro v' w3 hown3 hgrow3 _; have HO3 := hid hown3; have HG3 := hid hgrow3; clear hown3 hgrow3)
     have hz : ((1 + ↑x : Int) % 1000000000) = (((x + 1 + 0) % 1000000000 : Nat) : Int) := by omega
     rw [hz] at HO3
     obtain ⟨n1, n2⟩ := own_next hO.out hB.out HO3.out HG3.out
     have N1 := hid n1; have N2 := hid n2; clear n1 n2 hz HO3 HG3
     obtain ⟨a3, k3, rfl⟩ := owns_ex N1.out
     go_wp2_with fail
     go_roundw
     case rel => exact ⟨s ++ [(x + 1 + 0) % 1000000000], (x + 1 + 0) / 1000000000, _, by simp, rfl, by omega, HN.out.c1, by simp <;> omega, by simp <;> omega, HN, N1, N2⟩
     case measure => simp [intOf] <;> omega
  ·skip
   by_cases hB' : s.length < m
   ·obtain ⟨y, hy⟩ : ∃ y, (limbs b)[s.length]? = some y := ⟨_, List.getElem?_eq_getElem (by rw [HB.out]; exact hB')⟩
    obtain ⟨g', og', rfl, hg', hd⟩ := K3.out _ y hy
    have hd' := (hB.out.cell (p := ⟨g', og' + s.length, none⟩) hg').trans hd
    have hyl := (sm_limbs b).get hy
    have HY := hid hy; clear hy hd
    rcases (show c = 0 ∨ c = 1 by omega) with rfl | rfl
    ·obtain rfl : C = 0 := by omega
     clear hC
     have HN := hid (hP.out.next (by rw [HB.out]; exact .inr (.inl hB')))
     rw [getD_none (by rw [HA.out]; omega), getD_of HY.out] at HN
     go_wp2_with (at_builtin; refine wpList_append_own _ rfl _ _ 80 rfl w.heap.size 3 i0 (.int .i64 0) 1 8 Tryz.underlying80 hi hz0 hz1 hz2 rfl (by decide) _ s.length _ rfl (hO.out.alloc _) ⟨wr.heap.size, 0, none⟩ 1 1 [.int .i64 ((↑y : Int) % 1000000000)] rfl rfl (cell_one_new wr (.int .i64 ((↑y : Int) % 1000000000)) 3) (by simp [Value.oneCell']) (by unfold maxLen; omega) (by omega) (by have := hB.out.size; simp; omega) ?_; intro v' w3 hown3 hgrow3 _; have HO3 := hid hown3; have HG3 := hid hgrow3; clear hown3 hgrow3)
     have hz : ((↑y : Int) % 1000000000) = (((0 + 0 + y) % 1000000000 : Nat) : Int) := by omega
     rw [hz] at HO3
     obtain ⟨n1, n2⟩ := own_next hO.out hB.out HO3.out HG3.out
     have N1 := hid n1; have N2 := hid n2; clear n1 n2 hz HO3 HG3
     obtain ⟨a3, k3, rfl⟩ := owns_ex N1.out
     go_wp2_with fail
     go_roundw
     case rel => exact ⟨s ++ [(0 + 0 + y) % 1000000000], (0 + 0 + y) / 1000000000, _, by simp, rfl, by omega, HN.out.c1, by simp <;> omega, by simp <;> omega, HN, N1, N2⟩
     case measure => simp [intOf] <;> omega
    ·obtain rfl : C = 1 := by omega
     clear hC
     have HN := hid (hP.out.next (by rw [HB.out]; exact .inr (.inl hB')))
     rw [getD_none (by rw [HA.out]; omega), getD_of HY.out] at HN
     go_wp2_with (at_builtin; refine wpList_append_own _ rfl _ _ 80 rfl w.heap.size 3 i0 (.int .i64 0) 1 8 Tryz.underlying80 hi hz0 hz1 hz2 rfl (by decide) _ s.length _ rfl (hO.out.alloc _) ⟨wr.heap.size, 0, none⟩ 1 1 [.int .i64 ((1 + ↑y : Int) % 1000000000)] rfl rfl (cell_one_new wr (.int .i64 ((1 + ↑y : Int) % 1000000000)) 3) (by simp [Value.oneCell']) (by unfold maxLen; omega) (by omega) (by have := hB.out.size; simp; omega) ?_; intro v' w3 hown3 hgrow3 _; have HO3 := hid hown3; have HG3 := hid hgrow3; clear hown3 hgrow3)
     have hz : ((1 + ↑y : Int) % 1000000000) = (((0 + 1 + y) % 1000000000 : Nat) : Int) := by omega
     rw [hz] at HO3
     obtain ⟨n1, n2⟩ := own_next hO.out hB.out HO3.out HG3.out
     have N1 := hid n1; have N2 := hid n2; clear n1 n2 hz HO3 HG3
     obtain ⟨a3, k3, rfl⟩ := owns_ex N1.out
     go_wp2_with fail
     go_roundw
     case rel => exact ⟨s ++ [(0 + 1 + y) % 1000000000], (0 + 1 + y) / 1000000000, _, by simp, rfl, by omega, HN.out.c1, by simp <;> omega, by simp <;> omega, HN, N1, N2⟩
     case measure => simp [intOf] <;> omega
   ·skip
    rcases (show c = 0 ∨ c = 1 by omega) with rfl | rfl
    ·obtain rfl : C = 0 := by omega
     clear hC
     have hs := hid (hP.out.done (by rw [HA.out]; exact hA) (by rw [HB.out]; exact hB') rfl)
     go_wp2_with fail
     go_ret
     exact ⟨⟨_, rfl, owns_isN hO.out hs.out, fun g hg => (hO.out.lt g hg).1⟩, hB.out⟩
    ·obtain rfl : C = 1 := by omega
     clear hC
     have HN := hid (hP.out.next (by exact .inr (.inr (by omega))))
     rw [getD_none (by rw [HA.out]; omega), getD_none (by rw [HB.out]; omega)] at HN
     go_wp2_with (at_builtin; refine wpList_append_own _ rfl _ _ 80 rfl w.heap.size 3 i0 (.int .i64 0) 1 8 Tryz.underlying80 hi hz0 hz1 hz2 rfl (by decide) _ s.length _ rfl (hO.out.alloc _) ⟨wr.heap.size, 0, none⟩ 1 1 [.int .i64 (1)] rfl rfl (cell_one_new wr (.int .i64 (1)) 3) (by simp [Value.oneCell']) (by unfold maxLen; omega) (by omega) (by have := hB.out.size; simp; omega) ?_; intro v' w3 hown3 hgrow3 _; have HO3 := hid hown3; have HG3 := hid hgrow3; clear hown3 hgrow3)
     have hz : (1) = (((0 + 1 + 0) % 1000000000 : Nat) : Int) := by omega
     rw [hz] at HO3
     obtain ⟨n1, n2⟩ := own_next hO.out hB.out HO3.out HG3.out
     have N1 := hid n1; have N2 := hid n2; clear n1 n2 hz HO3 HG3
     obtain ⟨a3, k3, rfl⟩ := owns_ex N1.out
     go_wp2_with fail
     go_roundw
     case rel => exact ⟨s ++ [(0 + 1 + 0) % 1000000000], (0 + 1 + 0) / 1000000000, _, by simp, rfl, by omega, HN.out.c1, by simp <;> omega, by simp <;> omega, HN, N1, N2⟩
     case measure => simp [intOf] <;> omega
theorem r1_Plus (w : World) (v u : Value) (a b : Nat) (ha : IsN .i64 w v a) (hb : IsN .i64 w u b) (hla : (limbs a).length ≤ 1000000) (hlb : (limbs b).length ≤ 1000000) :
 Calls Tryz.prog 73 #[v, u] w fun e w' => RetN .i64 (a + b) e w' ∧ Below w.heap.size w w' :=
 (r1_PlusF w v u a b ha hb hla hlb).mono fun _ _ h => ⟨h.1.ret, h.2⟩
open Go.Shelf
open Go.Lib (decDigits nDigits)
def tb (l : List UInt8) : ByteArray := ⟨l.toArray⟩
end Go.Proofs.YtgphopkifomffaaGreatDoor
namespace Go.Proofs
open Go.Shelf
def Tryz.lays212_ren : Go.Shelf.Ren := ⟨fun | 212 => 194 | 263 => 230 | 264 => 231 | n => n, fun | 46 => 107 | 51 => 153 | 146 => 264 | 53 => 120 | 148 => 266 | n => n, fun | n => n⟩
theorem Tryz.lays212 : Go.Proofs.Lays.n212 Tryz.prog Tryz.lays212_ren := {
 mixed := by kernel_rfl
 f212 := Tryz.func194.trans (congrArg some (by kernel_rfl))
 f263 := Tryz.func230.trans (congrArg some (by kernel_rfl))
 f264 := Tryz.func231.trans (congrArg some (by kernel_rfl))
 t46 := Tryz.underlying107
 a46 := Tryz.isAgg107
 z46 := Tryz.sizeOf107
 v46 := Tryz.zeroValue107
 t51 := Tryz.underlying153
 a51 := Tryz.isAgg153
 z51 := Tryz.sizeOf153
 v51 := Tryz.zeroValue153
 t53 := Tryz.underlying120
 a53 := Tryz.isAgg120
 z53 := Tryz.sizeOf120
 v53 := Tryz.zeroValue120
 t146 := Tryz.underlying264
 a146 := Tryz.isAgg264
 z146 := Tryz.sizeOf264
 v146 := Tryz.zeroValue264
 t148 := Tryz.underlying266
 a148 := Tryz.isAgg266
 z148 := Tryz.sizeOf266
 v148 := Tryz.zeroValue266 }
open Go.RowKit Go.Lib in
theorem Tryz.bits_Mul (x y : Nat) (hx : x < 18446744073709551616) (hy : y < 18446744073709551616) (w : World) :
 Calls Tryz.prog 194 #[.int .u64 x, .int .u64 y] w fun e w' => e = .returned (.tuple #[.int .u64 ((x * y / 18446744073709551616 : Nat) : Int), .int .u64 ((x * y % 18446744073709551616 : Nat) : Int)]) ∧ w' = w := Any.bits_Mul Tryz.lays212 x y hx hy w
end Go.Proofs
namespace Go.Proofs.YtgphopkifomffaaGreatDoor
open Go.RowKit
def strsR (l : List ByteArray) : List Value := l.map Value.string
@[simp] theorem strsR_length (l : List ByteArray) : (strsR l).length = l.length := by simp [strsR]
theorem strsR_get {l : List ByteArray} {i : Nat} {s : ByteArray} (h : l[i]? = some s) : (strsR l)[i]? = some (.string s) := by simp [strsR, h]
theorem strsR_one (l : List ByteArray) : ∀ u ∈ strsR l, u.oneCell' = true := by
 intro u hu
 obtain ⟨x, _, rfl⟩ := List.mem_map.1 hu
 rfl
theorem make_strsR (n : Nat) (h : n ≤ 1000000) (W : World) : (Instr.makeSlice 168 (.int .i64 (n : Int)) (.int .i64 (n : Int))).run Tryz.prog W = .ok (.slice (some ⟨W.heap.size, 0, none⟩) n n) (W.alloc (.cells (madeCells #[.string ⟨#[]⟩] n) 22)) :=
 run_make_row' (P := Tryz.prog) 168 22 (.string ⟨#[]⟩) 16 Tryz.underlying168 (by kernel_rfl) rfl .i64 .i64 n (by omega) (by omega) W
theorem made_strsR (n : Nat) : madeCells #[.string ⟨#[]⟩] n = (strsR (List.replicate n ⟨#[]⟩)).toArray := by
 apply Array.ext_getElem?
 intro i
 unfold madeCells strsR
 by_cases hi : i < n <;> simp [hi, Nat.mod_one]
def repS (s : ByteArray) (n k : Nat) : List Value := strsR (List.replicate k s ++ List.replicate (n - k) ⟨#[]⟩)
theorem repS_splice {s : ByteArray} {n k m : Nat} (h : k + m ≤ n) : splice (repS s n k) k (strsR (List.replicate m s)) = repS s n (k + m) := by
 unfold splice repS strsR
 simp only [List.map_append, List.map_replicate, List.length_replicate]
 rw [List.take_append_of_le_length (by simp), List.take_of_length_le (by simp), List.drop_append, List.drop_of_length_le (by simp), List.nil_append, List.length_replicate, List.drop_replicate, ← List.append_assoc, List.replicate_append_replicate]
 rw [show n - k - (k + m - k) = n - (k + m) by omega]
theorem s_Repeat (w : World) (g0 n : Nat) (s : ByteArray) (h1 : 1 ≤ n) (h2 : n ≤ 100000) (hc : w.cell? ⟨g0, 0, none⟩ = some (.string s)) :
 Calls Tryz.prog 138 #[.slice (some ⟨g0, 0, none⟩) 1 1, .int .i64 n] w fun e w' =>
  e = .returned (.slice (some ⟨w.heap.size, 0, none⟩) n n) ∧ Blk w' w.heap.size (strsR (List.replicate n s)).toArray 22 ∧ Below w.heap.size w w' := by
 have HM := fun W => hid (make_strsR n (by omega) W)
 have HB := fun W => hid (Tryz.bits_Mul 1 n (by omega) (by omega) W)
 have e1 : (((1 * n / 18446744073709551616 : Nat)) : Int) = 0 := by
  rw [Nat.one_mul, Nat.div_eq_of_lt (by omega)]; rfl
 have e2 : (((1 * n % 18446744073709551616 : Nat)) : Int) = (n : Int) := by
  rw [Nat.one_mul, Nat.mod_eq_of_lt (by omega)]
 rw [e1, e2] at HB
 have hn0 : (0 : Int) ≤ (n : Int) := by omega
 have hn1 : (n : Int) ≤ 100000 := by omega
 have q0 : decide ((n : Int) < 0) = false := by simp
 have hsrc : ∀ j v, (strsR [s])[j]? = some v → w.cell? ((⟨g0, 0, none⟩ : Addr).add j) = some v := by
  intro j v hj
  rcases j with _ | j
  ·simp [strsR] at hj; rw [← hj]; exact hc
  ·simp [strsR] at hj
 have HSRC := hid hsrc; have H1 := hid h1; have H2 := hid h2
 clear e1 e2 hsrc hc h1 h2
 go_enter Tryz.func138, Tryz.ntmps138
 go_wp2_with fail
 refine (HB _).out.mono ?_; rintro e w1 ⟨rfl, rfl⟩
 clear HB
 have HM1 := (HM w1).out
 have hc1 : (w1.alloc (.cells (madeCells #[.string ⟨#[]⟩] n) 22)).heap[w1.heap.size]? = some (.cells (repS s n 0).toArray 22 (0, 0)) := by
  have := Blk.new w1 (madeCells #[.string ⟨#[]⟩] n) 22
  rw [made_strsR] at this ⊢
  simpa [repS, Blk] using this
 have hc2 : (strsR [s]).length = Nat.min 1 n := (Nat.min_eq_left H1.out).symm
 have hc3 : ∀ j v, (strsR [s])[j]? = some v → (w1.alloc (.cells (madeCells #[.string ⟨#[]⟩] n) 22)).cell? ((⟨g0, 0, none⟩ : Addr).add j) = some v := fun j v h =>
  have h2 := HSRC.out j v h
  (((Below.refl w1.heap.size w1).alloc (Nat.le_refl _) _).cell (cell_lt h2)).trans h2
 have hc4 : 0 + (strsR [s]).length ≤ (repS s n 0).length := by simp [strsR, repS]; have := H1.out; omega
 have hc5 := (Below.refl w1.heap.size w1).alloc (Nat.le_refl _) (.cells (madeCells #[.string ⟨#[]⟩] n) 22)
 have C1 := hid hc1; have C2 := hid hc2; have C3 := hid hc3; have C4 := hid hc4; have C5 := hid hc5
 have hsp : splice (repS s n 0) 0 (strsR [s]) = repS s n 1 := by
  have := repS_splice (s := s) (n := n) (k := 0) (m := 1) (by have := H1.out; omega)
  simpa using this
 have HSP := hid hsp
 clear hc1 hc2 hc3 hc4 hc5 HM hsp
 go_wp2_with (refine wpList_copy_splice rfl (.tmp 31) (.tmp 32) 168 168 rfl 22 Tryz.underlying168 (by kernel_rfl) (some ⟨w1.heap.size, 0, none⟩) (some ⟨g0, 0, none⟩) n n 1 1 rfl rfl w1.heap.size 0 (repS s n 0) 22 C1.out (strsR [s]) C2.out (fun _ => ⟨rfl, _, rfl, C3.out⟩) C4.out (strsR_one _) w1.heap.size w1 C5.out (Nat.le_refl _) ?_; intro w2 hg2 hb2)
 rw [HSP.out] at hg2
 have G2 := hid (show Blk w2 w1.heap.size (repS s n 1).toArray 22 from hg2.out); have B2 := hid hb2
 obtain ⟨H, hH⟩ : ∃ H, w1.heap.size = H := ⟨_, rfl⟩
 rw [hH] at G2 B2 ⊢
 clear hg2 hb2 HM1 C1 C2 C3 C4 C5 HSP HSRC
 have HH := hid hH
 clear hH
 go_loopw [8] (fun i wr => ∃ k : Nat, i = .int .i64 (k : Nat) ∧ 1 ≤ k ∧ k ≤ n ∧ Hid (Blk wr H (repS s n k).toArray 22) ∧ Hid (Below H w1 wr)) (fun i wr => n - (intOf i).toNat)
 case atStart => exact ⟨1, rfl, Nat.le_refl _, H1.out, G2.out, B2.out⟩
 case round =>
  obtain ⟨k, rfl, hk1, hk2, hG, hB⟩ := hrel
  by_cases hlt : k < n
  ·have f0 : (0 : Int) ≤ (k : Int) := by omega
   have f1 : (k : Int) < (n : Int) := by omega
   have f2 : (k : Int) ≤ (n : Int) := by omega
   have K1 := hid hk1; have K2 := hid hlt
   clear hk1 hk2
   go_wp2_with fail
   refine held_plain [0, 1, 2, 3, 4, 5, 6] 3 (fun _ => True) (by kernel_rfl) (by kernel_rfl) (by kernel_rfl) (by kernel_rfl) trivial ?_
   iterate 7
    refine ⟨_, rfl, ?_⟩
    apply Exists.intro
    refine ⟨.inl ⟨by rfl, ?_⟩, ?_⟩
    ·(intro W' hW'; clear hW'; go_simp; try (with_reducible rfl))
    (dsimp only [Act.put]; try simp only [List.setIfInBounds_toArray, List.set_cons_zero, List.set_cons_succ])
   refine held_one (i := 7) (by kernel_rfl) (by rfl) (by rfl) ?_
   obtain ⟨m, hm⟩ : ∃ m, Nat.min k (n - k) = m := ⟨_, rfl⟩
   have hm1 : m ≤ k := hm ▸ Nat.min_le_left _ _
   have hm2 : m ≤ n - k := hm ▸ Nat.min_le_right _ _
   have hm3 : 1 ≤ m := by rw [← hm]; exact Nat.le_min.2 ⟨K1.out, by omega⟩
   have hsrc : ∀ j v, (strsR (List.replicate m s))[j]? = some v → wr.drew.cell? ((⟨H, 0, none⟩ : Addr).add j) = some v := fun j v hj => by
    rw [Addr.add_lit, Nat.zero_add]
    have hjm : j < m := by
     have := (List.getElem?_eq_some_iff.1 hj).1
     simpa using this
    have hv : v = .string s := by
     rw [strsR_get (s := s) (by rw [List.getElem?_replicate, if_pos hjm])] at hj
     cases hj; rfl
    rw [hv]
    refine (Blk.cell (Blk.drew hG.out) j).trans ?_
    rw [List.getElem?_toArray]
    exact strsR_get (by rw [List.getElem?_append_left (by simp; omega), List.getElem?_replicate, if_pos (by omega)])
   rw [if_neg (show ¬ n = k by have := K2.out; omega)]
   refine wpList_copy_splice rfl (.tmp 41) (.tmp 44) 168 168 rfl 22 Tryz.underlying168 (by kernel_rfl) (some ⟨H, k, none⟩) (some ⟨H, 0, none⟩) (n - k) (n - k) k n rfl rfl H k (repS s n k) 22 hG.out (strsR (List.replicate m s)) (by simp [hm]) (fun _ => ⟨rfl, _, rfl, hsrc⟩) (by simp [repS, strsR] <;> omega) (strsR_one _) H w1 (hB.out.drew) (Nat.le_refl _) ?_
   intro w4 hg4 hb4
   rw [show (strsR (List.replicate m s)).length = m by simp]
   rw [repS_splice (by omega)] at hg4
   have G4 := hid (show Blk w4 H (repS s n (k + m)).toArray 22 from hg4.out); have B4 := hid hb4
   have M2 := hid hm2; have M3 := hid hm3
   have f5 : (0 : Int) ≤ (m : Int) := by omega
   have f6 : (m : Int) ≤ 100000 := by omega
   have ew : IntKind.i64.wrap ((k : Int) + (m : Int)) = (k : Int) + (m : Int) := by rw [IntWalk.i64_in _ ⟨by omega, by omega⟩]
   clear hm hm1 hm2 hm3 hsrc hg4 hb4
   go_wp2_with fail
   refine ⟨trivial, ?_⟩
   refine held_more (is := [8, 9]) (g := 0) (by kernel_rfl) rfl trivial (by kernel_rfl) ?_
   iterate 2
    refine ⟨_, rfl, ?_⟩
    apply Exists.intro
    refine ⟨.inl ⟨by rfl, ?_⟩, ?_⟩
    ·(intro W' hW'; clear hW'; go_simp; try (with_reducible rfl))
    (dsimp only [Act.put]; try simp only [List.setIfInBounds_toArray, List.set_cons_zero, List.set_cons_succ])
   refine wpAnyH_done (by kernel_rfl) ?_ _
   simp only [Only]
   go_wp2_with fail
   go_roundw
   case rel => exact ⟨k + m, by rw [Int.natCast_add], by have := M3.out; omega, by have := M2.out; have := K2.out; omega, G4, B4⟩
   case measure => simp [intOf] <;> (have := M3.out; have := K2.out; omega)
  ·have e1 : k = n := by omega
   subst e1
   go_wp2_with fail
   go_ret
   have hh := HH.out
   subst hh
   refine ⟨rfl, ?_, hB.out⟩
   have := hG.out
   simpa [repS] using this
open Go.Lib (decDigits nDigits)
theorem p_plus (V : World) (x y : Nat) (hx : nDigits x ≤ 4000) (hy : nDigits y ≤ 4000) (h : nDigits (x + y) ≤ 4000) (hL : Lay V) : Calls Tryz.prog 139 #[.string (numB x), .string (numB y)] V fun e w' => e = .returned (.string (numB (x + y))) ∧ Below V.heap.size V w' := by
 have h2 := g_plus V (numB x) (numB y) (numB_sz hx) (numB_sz hy) hL
 rwa [natB_num hx hy h] at h2
theorem p_times (V : World) (x y : Nat) (hx : nDigits x ≤ 4000) (hy : nDigits y ≤ 4000) (h : nDigits (x * y) ≤ 4000) (hL : Lay V) : Calls Tryz.prog 140 #[.string (numB x), .string (numB y)] V fun e w' => e = .returned (.string (numB (x * y))) ∧ Below V.heap.size V w' := by
 have h2 := g_times V (numB x) (numB y) (numB_sz hx) (numB_sz hy) hL
 rwa [natB_num hx hy h] at h2
theorem p_cmp (V : World) (x y : Nat) (hx : nDigits x ≤ 4000) (hy : nDigits y ≤ 4000) : Calls Tryz.prog 143 #[.string (numB x), .string (numB y)] V fun e w' => e = .returned (.int .i64 (ordN x y)) ∧ Below V.heap.size V w' := by
 have h2 := n_Cmp V (numB x) (numB y) (numB_sz hx) (numB_sz hy)
 rwa [cmpN_num hx hy] at h2
theorem p_sub (V : World) (x y : Nat) (hx : nDigits x ≤ 4000) (hy : nDigits y ≤ 4000) (h : y ≤ x) (hL : Lay V) : Calls Tryz.prog 99 #[.string (numB x), .string (numB y)] V fun e w' => e = .returned (.tuple #[.string (numB (x - y)), .int .i64 0]) ∧ Below V.heap.size V w' := by
 have h2 := n_Sub V (numB x) (numB y) (numB_sz hx) (numB_sz hy) hL
 have h3 : ¬ 4000 < nDigits (x - y) := by have := nDigits_mono (show x - y ≤ x by omega); omega
 have e1 : pairB (subB (bN (numB x)) (bN (numB y))) (numB x) (numB y) = numB (x - y) := by
  rw [bN_num, bN_num, pairB, if_pos ⟨errN_numB hx, errN_numB hy⟩, subB, if_neg (by omega), resB, if_neg h3]
 have e2 : pairE (subE (bN (numB x)) (bN (numB y))) (numB x) (numB y) = 0 := by
  rw [bN_num, bN_num, pairE, if_pos (errN_numB hx), if_pos (errN_numB hy), subE, if_neg (by omega), resE, if_neg h3]
 rwa [e1, e2] at h2
theorem make_bools (n : Nat) (h : n ≤ 1000000) (W : World) : (Instr.makeSlice 222 (.int .i64 (n : Int)) (.int .i64 (n : Int))).run Tryz.prog W = .ok (.slice (some ⟨W.heap.size, 0, none⟩) n n) (W.alloc (.cells (madeCells #[.bool false] n) 4)) :=
 run_make_row' (P := Tryz.prog) 222 4 (.bool false) 1 Tryz.underlying222 (by kernel_rfl) rfl .i64 .i64 n (by omega) (by omega) W
theorem made_bools (f : Nat → Bool) (n : Nat) : madeCells #[.bool false] (n + 1) = (tabL f n 0).toArray := by
 rw [tabL_zero]
 apply Array.ext_getElem?
 intro i
 unfold madeCells
 by_cases hi : i < n + 1 <;> simp [hi, Nat.mod_one]
def TwoB (w : World) (H n : Nat) (v u : Value) (f g : List Value) : Prop := ∃ g1 g2, v = .slice (some ⟨g1, 0, none⟩) (n + 1) (n + 1) ∧ u = .slice (some ⟨g2, 0, none⟩) (n + 1) (n + 1) ∧ g1 ≠ g2 ∧ H ≤ g1 ∧ H ≤ g2 ∧ Blk w g1 f.toArray 4 ∧ Blk w g2 g.toArray 4
def SidesOut (w : World) (n N D : Nat) (e : Ending) (w' : World) : Prop := ∃ v u, e = .returned (.tuple #[v, u]) ∧ TwoB w' w.heap.size n v u (allB (oneJ N D) n) (allB (zeroJ N D) n)
theorem lit_zero : ((⟨#[48]⟩ : ByteArray).toList == [48]) = true := by
 rw [Lib.toList_data]; rfl
theorem g_sides (w : World) (a : ByteArray) (n N D : Nat) (ha : a.size ≤ 100000) (he : gPE a = 0) (hn : n ≤ 1000) (hN : bN (cW a) = N) (hD : bN (qD a) = D) (hND : N < D) (hL : Lay w) :
 Calls Tryz.prog 193 #[.string a, .int .i64 n] w fun e w' => SidesOut w n N D e w' ∧ Below w.heap.size w w' := by
 have HR := hid (g_ratio w a ha hL)
 obtain ⟨c1, c2, c3, c4, -⟩ := cPE_ok (gPE_ok he).1
 rw [if_pos he, if_pos he, he] at HR
 rw [c1, c2, hN, hD] at HR
 rw [hN] at c3
 rw [hD] at c4
 have dN : ∀ x, x < 10 ^ (eN + 1) → nDigits x ≤ 4000 := fun x h => numB_small h (by omega) (by unfold eN; omega)
 have hM := fun W => hid (make_bools (n + 1) (by omega) W)
 have HL := hid hL; have HLL := hid hL.lt; have HND := hid hND; have DN := hid dN; have C4 := hid c4; have C3 := hid c3; have HN := hid hn
 have wn : IntKind.i64.wrap ((n : Int) + 1) = ((n + 1 : Nat) : Int) := by rw [IntWalk.i64_in _ ⟨by omega, by omega⟩]; omega
 obtain ⟨sN, hsN⟩ : ∃ s, numB N = s := ⟨_, rfl⟩
 obtain ⟨sD, hsD⟩ : ∃ s, numB D = s := ⟨_, rfl⟩
 rw [hsN, hsD] at HR
 have HSN := hid hsN; have HSD := hid hsD
 clear ha he hn hN hD hND hL c1 c2 c3 c4 dN hsN hsD
 go_enter Tryz.func193, Tryz.ntmps193
 go_wp2_with fail
 refine HR.out.mono ?_; rintro e w1 ⟨rfl, hb1⟩
 have B1 := hid hb1
 clear hb1 HR
 go_upto_region 2 with fail
 go_cut [4, 5] (fun s4 s5 wx => TwoB wx w.heap.size n s4 s5 (tabL (oneJ N D) n 0) (tabL (zeroJ N D) n 0) ∧ Below w.heap.size w wx)
 case first =>
  have X := fun (g1 g2 : Nat) (W : World) (h1 : Blk W g1 (madeCells #[.bool false] (n + 1)) 4) (h2 : Blk W g2 (madeCells #[.bool false] (n + 1)) 4) (h3 : g1 ≠ g2) (h4 : w.heap.size ≤ g1) (h5 : w.heap.size ≤ g2) => hid (show TwoB W w.heap.size n (.slice (some ⟨g1, 0, none⟩) (n + 1) (n + 1)) (.slice (some ⟨g2, 0, none⟩) (n + 1) (n + 1)) (tabL (oneJ N D) n 0) (tabL (zeroJ N D) n 0) from ⟨g1, g2, rfl, rfl, h3, h4, h5, by rw [← made_bools]; exact h1, by rw [← made_bools]; exact h2⟩)
  have M1 : ∀ W, (Instr.makeSlice 222 (.int .i64 ((n : Int) + 1)) (.int .i64 ((n : Int) + 1))).run Tryz.prog W = .ok (.slice (some ⟨W.heap.size, 0, none⟩) (n + 1) (n + 1)) (W.alloc (.cells (madeCells #[.bool false] (n + 1)) 4)) := fun W => (hM W).out
  clear hM
  go_region
  all_goals
   go_wp2_with fail
   go_meet
   first
    | exact ⟨(X w1.heap.size (w1.heap.size + 1) _ ((Blk.new w1 _ _).alloc _) (Blk.made _ _ _ (by simp)) (by omega) B1.out.size (by have := B1.out.size; omega)).out, (((B1.out.alloc B1.out.size _).alloc (by have := B1.out.size; simp; omega) _)).drew⟩
    | exact ⟨(X (w1.heap.size + 1) w1.heap.size _ (Blk.made _ _ _ (by simp)) ((Blk.new w1 _ _).alloc _) (by omega) (by have := B1.out.size; omega) B1.out.size).out, (((B1.out.alloc B1.out.size _).alloc (by have := B1.out.size; simp; omega) _)).drew⟩
 case rest =>
  obtain ⟨⟨g1, g2, rfl, rfl, h3, h4, h5, hb1, hb2⟩, hB⟩ := hcut
  have G1 := hid hb1; have G2 := hid hb2; have B2 := hid hB; have H3 := hid h3; have H4 := hid h4; have H5 := hid h5
  have k0 : wc.cell? ⟨g2, 0, none⟩ = some (.bool false) := by
   refine (hb2.cell 0).trans ?_
   rw [List.getElem?_toArray, tabL_get (Nat.zero_le _)]; simp
  have k1 := hb2.free 0
  have z0 : (0 : Int) < ((n + 1 : Nat) : Int) := by omega
  have z1 : (0 : Int) < (n : Int) + 1 := by omega
  obtain ⟨z, hz⟩ : ∃ z, (sN.toList == [48]) = z := ⟨_, rfl⟩
  have HZ : Hid (z = decide (N = 0)) := by
   show z = decide (N = 0)
   rw [← hz]
   by_cases h0 : N = 0
   ·rw [← HSN.out, h0, numB_zero, lit_zero]; simp
   ·rw [← HSN.out, ne_lit (l := [48]) (by rw [← numB_zero]; exact numB_ne h0)]
    simp [h0]
  clear hb1 hb2 hB hM h3 h4 h5
  go_wp2_with fail
  obtain ⟨W3, hW3⟩ : ∃ W, wc.setCell ⟨g2, 0, none⟩ (.bool z) = W := ⟨_, rfl⟩
  have G3 : Blk W3 g1 (tabL (oneJ N D) n 1).toArray 4 := by
   rw [← hW3, tabL_skip (f := oneJ N D) (j := 0) rfl]
   exact G1.out.other (fun e => H3.out e.symm) _
  have G4 : Blk W3 g2 (tabL (zeroJ N D) n 1).toArray 4 := by
   have h := G2.out.set 0 (.bool z)
   rw [hW3, List.setIfInBounds_toArray, HZ.out] at h
   have h2 := tabL_set (f := zeroJ N D) (n := n) (j := 0) (Nat.zero_le _)
   rw [← h2]
   exact h
  have B3 : Below w.heap.size w W3 := by rw [← hW3]; exact B2.out.setCell H5.out _
  rw [hW3]
  have HG3 := hid G3; have HG4 := hid G4; have HB3 := hid B3
  have e0 : Hid ((!z) = (sdx N D 0).2) := by show (!z) = _; rw [HZ.out]; simp [sdx]
  clear k0 k1 hz z0 z1 G3 G4 B3 hW3 G1 G2 B2 B1
  go_loopw [9, 10, 11] (fun o x j wr => ∃ i : Nat, j = .int .i64 ((i + 1 : Nat) : Int) ∧ i ≤ n ∧ o = .bool (sdx N D i).2 ∧ x = .string (numB (sdx N D i).1) ∧ Hid (Blk wr g1 (tabL (oneJ N D) n (i + 1)).toArray 4) ∧ Hid (Blk wr g2 (tabL (zeroJ N D) n (i + 1)).toArray 4) ∧ Hid (Below w.heap.size w wr)) (fun o x j wr => n + 1 - (intOf j).toNat)
  case atStart => exact ⟨0, rfl, Nat.zero_le _, by rw [e0.out], by rw [HSN.out.symm]; rfl, HG3.out, HG4.out, HB3.out⟩
  case round =>
   obtain ⟨i, rfl, hi, rfl, rfl, hg1, hg2, hB⟩ := hrel
   cases ho : (sdx N D i).2
   ·have GG1 : Blk wr g1 (allB (oneJ N D) n).toArray 4 := by
     rw [← tabL_full (oneJ N D) n (j := n + 1) (by omega), tabL_shut (j := i + 1) (fun k hk => oneJ_shut ho k (by omega)) (n + 1) (by omega)]
     exact hg1.out
    have GG2 : Blk wr g2 (allB (zeroJ N D) n).toArray 4 := by
     rw [← tabL_full (zeroJ N D) n (j := n + 1) (by omega), tabL_shut (j := i + 1) (fun k hk => zeroJ_shut ho k (by omega)) (n + 1) (by omega)]
     exact hg2.out
    have GG1 := hid GG1; have GG2 := hid GG2
    clear ho hi
    go_wp2_with fail
    all_goals
     go_ret2
     exact ⟨⟨_, _, rfl, ⟨g1, g2, rfl, rfl, H3.out, H4.out, H5.out, GG1.out, GG2.out⟩⟩, hB.out⟩
   ·by_cases hlt : i + 1 ≤ n
    ·obtain ⟨X, hX⟩ : ∃ X, (sdx N D i).1 = X := ⟨_, rfl⟩
     have hXD : X < D := hX ▸ sdx_lt HND.out i
     have hs : sdx N D (i + 1) = if D ≤ 2 * X then (2 * X - D, decide (2 * X ≠ D)) else (2 * X, true) := by rw [sdx, if_pos ho, hX]
     have h1 : oneJ N D (i + 1) = decide (D ≤ 2 * X) := by rw [oneJ, ho, hX]; rfl
     have h0 : zeroJ N D (i + 1) = decide (2 * X ≤ D) := by rw [zeroJ, ho, hX]; rfl
     have p10 : (10 : Nat) ^ (eN + 1) = 10 * 10 ^ eN := by rw [Nat.pow_succ, Nat.mul_comm]
     have q10 := C4.out
     have d1 : nDigits X ≤ 4000 := DN.out X (by omega)
     have d2 : nDigits (X + X) ≤ 4000 := DN.out _ (by omega)
     have d3 : nDigits D ≤ 4000 := DN.out _ (by omega)
     have HPL := fun V hV => hid (p_plus V X X d1 d1 d2 hV)
     have HCM := fun V => hid (p_cmp V (X + X) D d2 d3)
     rw [HSD.out] at HCM
     rw [hX]
     have k1 : wr.cell? ⟨g1, i + 1, none⟩ = some (.bool false) := by
      refine (hg1.out.cell (i + 1)).trans ?_
      rw [List.getElem?_toArray, tabL_get hlt]; simp
     have k2 : wr.cell? ⟨g2, i + 1, none⟩ = some (.bool false) := by
      refine (hg2.out.cell (i + 1)).trans ?_
      rw [List.getElem?_toArray, tabL_get hlt]; simp
     have f0 : (0 : Int) ≤ ((i + 1 : Nat) : Int) := by omega
     have f1 : ((i + 1 : Nat) : Int) < ((n + 1 : Nat) : Int) := by omega
     have f2 : decide (((i + 1 : Nat) : Int) ≤ (n : Int)) = true := by simp; omega
     have f3 : ((i + 1 : Nat) : Int) ≤ 1000 := by have := HN.out; omega
     have f4 : (i : Int) ≤ 1000 := by have := HN.out; omega
     have HLT := hid hlt
     rcases Nat.lt_trichotomy (X + X) D with hc | hc | hc
     ·rw [ordN_lt hc] at HCM
      have HS := hid (show sdx N D (i + 1) = (X + X, true) from by rw [hs, if_neg (by omega), Nat.two_mul])
      have T1 := hid (tabL_skip (n := n) (show oneJ N D (i + 1) = false from by rw [h1]; simp; omega))
      have T0 := hid (tabL_set (f := zeroJ N D) hlt)
      have HZ0 := hid (show zeroJ N D (i + 1) = true from by rw [h0]; simp; omega)
      clear hc hs h1 h0 p10 q10 d1 d2 d3 hX hXD ho hi
      go_wp2_with fail
      refine (HPL _ (HL.out.below hB.out HLL.out)).out.mono ?_; rintro e w5 ⟨rfl, hb5⟩
      have G15 := hid (hg1.out.call hb5); have G25 := hid (hg2.out.call hb5); have B5 := hid (hB.out.trans (hb5.mono hB.out.size))
      clear hb5
      go_wp2_with fail
      refine (HCM _).out.mono ?_; rintro e w6 ⟨rfl, hb6⟩
      have G16 := hid (G15.out.call hb6); have G26 := hid (G25.out.call hb6); have B6 := hid (B5.out.trans (hb6.mono B5.out.size))
      have m1 : w6.cell? ⟨g1, i + 1, none⟩ = some (.bool false) := by
       refine (G16.out.cell (i + 1)).trans ?_
       rw [List.getElem?_toArray, tabL_get hlt]; simp
      have m2 : w6.cell? ⟨g2, i + 1, none⟩ = some (.bool false) := by
       refine (G26.out.cell (i + 1)).trans ?_
       rw [List.getElem?_toArray, tabL_get hlt]; simp
      have m3 := G16.out.free (i + 1)
      have m4 := G26.out.free (i + 1)
      clear hb6 hlt k1 k2
      go_wp2_with fail
      go_roundw
      case rel =>
       refine ⟨i + 1, by go_num, HLT.out, by rw [HS.out], by rw [HS.out], ?_, ?_, B6.out.setCell H5.out _⟩
       ·show Blk _ _ _ _
        rw [T1.out]
        exact G16.out.other (fun e => H3.out e.symm) _
       ·show Blk _ _ _ _
        rw [← T0.out, HZ0.out]
        have h := G26.out.set (i + 1) (.bool true)
        rw [List.setIfInBounds_toArray] at h
        exact h
      case measure => simp [intOf] <;> (have := HLT.out; omega)
     ·rw [show ordN (X + X) D = 0 from by rw [hc, ordN_eq]] at HCM
      have hle : D ≤ X + X := by omega
      have HSU := fun V hV => hid (p_sub V (X + X) D d2 d3 hle hV)
      rw [HSD.out] at HSU
      have HS := hid (show sdx N D (i + 1) = (X + X - D, false) from by rw [hs, if_pos (by omega), Nat.two_mul]; simp; omega)
      have T1 := hid (tabL_set (f := oneJ N D) hlt)
      have HZ1 := hid (show oneJ N D (i + 1) = true from by rw [h1]; simp; omega)
      have T0 := hid (tabL_set (f := zeroJ N D) hlt)
      have HZ0 := hid (show zeroJ N D (i + 1) = true from by rw [h0]; simp; omega)
      clear hc hs h1 h0 p10 q10 d1 d2 d3 hX hXD ho hi hle
      go_wp2_with fail
      refine (HPL _ (HL.out.below hB.out HLL.out)).out.mono ?_; rintro e w5 ⟨rfl, hb5⟩
      have G15 := hid (hg1.out.call hb5); have G25 := hid (hg2.out.call hb5); have B5 := hid (hB.out.trans (hb5.mono hB.out.size))
      clear hb5
      go_wp2_with fail
      refine (HCM _).out.mono ?_; rintro e w6 ⟨rfl, hb6⟩
      have G16 := hid (G15.out.call hb6); have G26 := hid (G25.out.call hb6); have B6 := hid (B5.out.trans (hb6.mono B5.out.size))
      have m1 : w6.cell? ⟨g1, i + 1, none⟩ = some (.bool false) := by
       refine (G16.out.cell (i + 1)).trans ?_
       rw [List.getElem?_toArray, tabL_get hlt]; simp
      have m2 : w6.cell? ⟨g2, i + 1, none⟩ = some (.bool false) := by
       refine (G26.out.cell (i + 1)).trans ?_
       rw [List.getElem?_toArray, tabL_get hlt]; simp
      have m3 := G16.out.free (i + 1)
      have m4 := G26.out.free (i + 1)
      clear hb6 hlt k1 k2
      go_wp2_with fail
      refine (HSU _ (HL.out.below B6.out HLL.out)).out.mono ?_; rintro e w7 ⟨rfl, hb7⟩
      have G17 := hid (G16.out.call hb7); have G27 := hid (G26.out.call hb7); have B7 := hid (B6.out.trans (hb7.mono B6.out.size))
      have n1 := (hb7.cell (cell_lt m1)).trans m1
      have n3 := G17.out.free (i + 1)
      have n2 : (w7.setCell ⟨g1, i + 1, none⟩ (.bool true)).cell? ⟨g2, i + 1, none⟩ = some (.bool false) := ((G27.out.other (fun e => H3.out e) (.bool true)).cell (i + 1)).trans (by rw [List.getElem?_toArray, tabL_get HLT.out]; simp)
      have n4 : (w7.setCell ⟨g1, i + 1, none⟩ (.bool true)).frozen? ⟨g2, i + 1, none⟩ = false := (G27.out.other (a := ⟨g1, i + 1, none⟩) (fun e => H3.out e) (.bool true)).free (i + 1)
      clear hb7 m1 m2 m3 m4
      go_wp2_with fail
      go_roundw
      case rel =>
       refine ⟨i + 1, by go_num, HLT.out, by rw [HS.out], by rw [HS.out], ?_, ?_, ((B7.out.setCell H4.out _).setCell H5.out _)⟩
       ·show Blk _ _ _ _
        rw [← T1.out, HZ1.out]
        have h := (G17.out.set (i + 1) (.bool true)).other (a := ⟨g2, i + 1, none⟩) (fun e => H3.out e.symm) (.bool true)
        rw [List.setIfInBounds_toArray] at h
        exact h
       ·show Blk _ _ _ _
        rw [← T0.out, HZ0.out]
        have h := (G27.out.other (a := ⟨g1, i + 1, none⟩) (fun e => H3.out e) (.bool true)).set (i + 1) (.bool true)
        rw [List.setIfInBounds_toArray] at h
        exact h
      case measure => simp [intOf] <;> (have := HLT.out; omega)
     ·rw [ordN_gt hc] at HCM
      have hle : D ≤ X + X := by omega
      have HSU := fun V hV => hid (p_sub V (X + X) D d2 d3 hle hV)
      rw [HSD.out] at HSU
      have HS := hid (show sdx N D (i + 1) = (X + X - D, true) from by rw [hs, if_pos (by omega), Nat.two_mul]; simp; omega)
      have T1 := hid (tabL_set (f := oneJ N D) hlt)
      have HZ1 := hid (show oneJ N D (i + 1) = true from by rw [h1]; simp; omega)
      have T0 := hid (tabL_set (f := zeroJ N D) hlt)
      have HZ0 := hid (show zeroJ N D (i + 1) = false from by rw [h0]; simp; omega)
      clear hc hs h1 h0 p10 q10 d1 d2 d3 hX hXD ho hi hle
      go_wp2_with fail
      refine (HPL _ (HL.out.below hB.out HLL.out)).out.mono ?_; rintro e w5 ⟨rfl, hb5⟩
      have G15 := hid (hg1.out.call hb5); have G25 := hid (hg2.out.call hb5); have B5 := hid (hB.out.trans (hb5.mono hB.out.size))
      clear hb5
      go_wp2_with fail
      refine (HCM _).out.mono ?_; rintro e w6 ⟨rfl, hb6⟩
      have G16 := hid (G15.out.call hb6); have G26 := hid (G25.out.call hb6); have B6 := hid (B5.out.trans (hb6.mono B5.out.size))
      have m1 : w6.cell? ⟨g1, i + 1, none⟩ = some (.bool false) := by
       refine (G16.out.cell (i + 1)).trans ?_
       rw [List.getElem?_toArray, tabL_get hlt]; simp
      have m2 : w6.cell? ⟨g2, i + 1, none⟩ = some (.bool false) := by
       refine (G26.out.cell (i + 1)).trans ?_
       rw [List.getElem?_toArray, tabL_get hlt]; simp
      have m3 := G16.out.free (i + 1)
      have m4 := G26.out.free (i + 1)
      clear hb6 hlt k1 k2
      go_wp2_with fail
      refine (HSU _ (HL.out.below B6.out HLL.out)).out.mono ?_; rintro e w7 ⟨rfl, hb7⟩
      have G17 := hid (G16.out.call hb7); have G27 := hid (G26.out.call hb7); have B7 := hid (B6.out.trans (hb7.mono B6.out.size))
      have n1 := (hb7.cell (cell_lt m1)).trans m1
      have n3 := G17.out.free (i + 1)
      have n2 : (w7.setCell ⟨g1, i + 1, none⟩ (.bool true)).cell? ⟨g2, i + 1, none⟩ = some (.bool false) := ((G27.out.other (fun e => H3.out e) (.bool true)).cell (i + 1)).trans (by rw [List.getElem?_toArray, tabL_get HLT.out]; simp)
      have n4 : (w7.setCell ⟨g1, i + 1, none⟩ (.bool true)).frozen? ⟨g2, i + 1, none⟩ = false := (G27.out.other (a := ⟨g1, i + 1, none⟩) (fun e => H3.out e) (.bool true)).free (i + 1)
      clear hb7 m1 m2 m3 m4
      go_wp2_with fail
      go_roundw
      case rel =>
       refine ⟨i + 1, by go_num, HLT.out, by rw [HS.out], by rw [HS.out], ?_, ?_, ((B7.out.setCell H4.out _).setCell H5.out _)⟩
       ·show Blk _ _ _ _
        rw [← T1.out, HZ1.out]
        have h := (G17.out.set (i + 1) (.bool true)).other (a := ⟨g2, i + 1, none⟩) (fun e => H3.out e.symm) (.bool false)
        rw [List.setIfInBounds_toArray] at h
        exact h
       ·show Blk _ _ _ _
        rw [← T0.out, HZ0.out]
        have h := (G27.out.other (a := ⟨g1, i + 1, none⟩) (fun e => H3.out e) (.bool true)).set (i + 1) (.bool false)
        rw [List.setIfInBounds_toArray] at h
        exact h
      case measure => simp [intOf] <;> (have := HLT.out; omega)
    ·have e1 : i = n := by omega
     subst e1
     have f2 : decide (((i + 1 : Nat) : Int) ≤ (i : Int)) = false := by simp; omega
     have GG1 : Blk wr g1 (allB (oneJ N D) i).toArray 4 := by
      rw [← tabL_full (oneJ N D) i (j := i + 1) (by omega)]
      exact hg1.out
     have GG2 : Blk wr g2 (allB (zeroJ N D) i).toArray 4 := by
      rw [← tabL_full (zeroJ N D) i (j := i + 1) (by omega)]
      exact hg2.out
     have GG1 := hid GG1; have GG2 := hid GG2
     clear ho hi hlt
     go_wp2_with fail
     go_ret2
     exact ⟨⟨_, _, rfl, ⟨g1, g2, rfl, rfl, H3.out, H4.out, H5.out, GG1.out, GG2.out⟩⟩, hB.out⟩
def NRowT (w : World) (g : Nat) (l : List Nat) : Prop := Blk w g (numL l).toArray 22
theorem NRowT.cell {w : World} {g : Nat} {l : List Nat} (h : NRowT w g l) {i : Nat} (hi : i < l.length) : w.cell? ⟨g, i, none⟩ = some (.string (numB (l.getD i 0))) := by
 refine (Blk.cell h i).trans ?_
 rw [List.getElem?_toArray, numL_get hi]
theorem NRowT.free {w : World} {g : Nat} {l : List Nat} (h : NRowT w g l) (i : Nat) : w.frozen? ⟨g, i, none⟩ = false := Blk.free h i
theorem NRowT.set {w : World} {g : Nat} {l : List Nat} (h : NRowT w g l) (i x : Nat) : NRowT (w.setCell ⟨g, i, none⟩ (.string (numB x))) g (l.set i x) := by
 have := Blk.set h i (.string (numB x))
 rw [List.setIfInBounds_toArray, numL_set] at this
 exact this
theorem NRowT.call {w w' : World} {g : Nat} {l : List Nat} (h : NRowT w g l) (hb : Below w.heap.size w w') : NRowT w' g l := Blk.call h hb
theorem NRowT.other {w : World} {g : Nat} {l : List Nat} (h : NRowT w g l) {a : Addr} (ha : a.block ≠ g) (v : Value) : NRowT (w.setCell a v) g l := Blk.other h ha v
theorem NRowT.zeros {w : World} {g n : Nat} (h : Blk w g (strsR (List.replicate n ⟨#[48]⟩)).toArray 22) : NRowT w g (List.replicate n 0) := by
 have e : numL (List.replicate n 0) = strsR (List.replicate n ⟨#[48]⟩) := by
  unfold numL strsR
  rw [List.map_replicate, List.map_replicate, numB_zero]
 unfold NRowT
 rw [e]; exact h
def TotOut (w : World) (n N D : Nat) (e : Ending) (w' : World) : Prop := ∃ g, e = .returned (.slice (some ⟨g, 0, none⟩) (n + 1) (n + 1)) ∧ w.heap.size ≤ g ∧ NRowT w' g (tOut (oneJ N D) (zeroJ N D) n (n + 1)).2
theorem g_totals (w : World) (a : ByteArray) (n N D : Nat) (ha : a.size ≤ 100000) (he : gPE a = 0) (hn : n ≤ 1000) (hN : bN (cW a) = N) (hD : bN (qD a) = D) (hND : N < D) (hL : Lay w) :
 Calls Tryz.prog 137 #[.string a, .int .i64 n] w fun e w' => TotOut w n N D e w' ∧ Below w.heap.size w w' := by
 have HS := hid (g_sides w a n N D ha he hn hN hD hND hL)
 have HR := fun V g h => hid (s_Repeat V g (n + 1) ⟨#[48]⟩ (by omega) (by omega) h)
 have HL := hid hL; have HLL := hid hL.lt; have HN := hid hn
 have wn : IntKind.i64.wrap ((n : Int) + 1) = ((n + 1 : Nat) : Int) := by rw [IntWalk.i64_in _ ⟨by omega, by omega⟩]; omega
 have h00 := hid (show oneJ N D 0 = false from rfl)
 obtain ⟨os, hos⟩ : ∃ f, oneJ N D = f := ⟨_, rfl⟩
 obtain ⟨zs, hzs⟩ : ∃ f, zeroJ N D = f := ⟨_, rfl⟩
 have HOS := hid hos; have HZS := hid hzs
 rw [hos] at h00
 clear ha he hn hN hD hND hL hos hzs
 go_enter Tryz.func137, Tryz.ntmps137
 go_wp2_with fail
 refine HS.out.mono ?_; rintro e w1 ⟨⟨v1, v2, rfl, ⟨g1, g2, rfl, rfl, h3, h4, h5, hg1, hg2⟩⟩, hb1⟩
 rw [HOS.out] at hg1
 rw [HZS.out] at hg2
 have G1 := hid hg1; have G2 := hid hg2; have B1 := hid hb1; have K1 := hid h4; have K2 := hid h5
 clear hg1 hg2 hb1 h3 h4 h5 HS
 go_wp2_with fail
 refine (HR _ _ ((Blk.new w1 _ _).cell 0)).out.mono ?_; rintro e w2 ⟨rfl, hg7, hb2⟩
 obtain ⟨g7, h7⟩ : ∃ g, (w1.alloc (.cells #[.string ⟨#[48]⟩] 22)).heap.size = g := ⟨_, rfl⟩
 rw [h7] at hg7 ⊢
 have R7 := hid (NRowT.zeros hg7)
 have a1 := (Below.refl w1.heap.size w1).alloc (Nat.le_refl _) (.cells #[.string ⟨#[48]⟩] 22)
 have b2 := hid (bnext a1 hb2)
 have K7 := hid (show w1.heap.size < g7 by rw [← h7]; simp)
 have B2 := hid (B1.out.trans (b2.out.mono B1.out.size)); have G12 := hid (G1.out.call b2.out); have G22 := hid (G2.out.call b2.out)
 have L7 := hid (show g7 < w2.heap.size from Blk.lt hg7)
 clear hg7 hb2 a1 h7
 go_wp2_with fail
 refine (HR _ _ ((Blk.new w2 _ _).cell 0)).out.mono ?_; rintro e w3 ⟨rfl, hg8, hb3⟩
 obtain ⟨g8, h8⟩ : ∃ g, (w2.alloc (.cells #[.string ⟨#[48]⟩] 22)).heap.size = g := ⟨_, rfl⟩
 rw [h8] at hg8 ⊢
 have R8 := hid (NRowT.zeros hg8)
 have a2 := (Below.refl w2.heap.size w2).alloc (Nat.le_refl _) (.cells #[.string ⟨#[48]⟩] 22)
 have b3 := hid (bnext a2 hb3)
 have K8 := hid (show w2.heap.size < g8 by rw [← h8]; simp)
 have B3 := hid (B2.out.trans (b3.out.mono B2.out.size)); have G13 := hid (G12.out.call b3.out); have G23 := hid (G22.out.call b3.out); have R73 := hid (R7.out.call b3.out)
 have N1 := hid (show g1 < w1.heap.size from Blk.lt G1.out); have N2 := hid (show g2 < w1.heap.size from Blk.lt G2.out)
 have z12 := hid b2.out.size; have zw1 := hid B1.out.size
 clear hg8 hb3 a2 h8 HR
 have k0 : w3.cell? ⟨g7, 0, none⟩ = some (.string ⟨#[48]⟩) := by
  refine (R73.out.cell (i := 0) (by simp)).trans ?_
  rw [← numB_zero]; simp [List.getD_eq_getElem?_getD]
 have k1 := R73.out.free 0
 have z0 : (0 : Int) < ((n + 1 : Nat) : Int) := by omega
 have z1 : (0 : Int) < (n : Int) + 1 := by omega
 go_wp2_with fail
 have X7 : Hid (7 = 7) := rfl
 have hne : g7 ≠ g8 := by have := L7.out; have := K8.out; omega
 obtain ⟨W3, hW3⟩ : ∃ W, w3.setCell ⟨g7, 0, none⟩ (.string ⟨#[49]⟩) = W := ⟨_, rfl⟩
 have S7 : NRowT W3 g7 (tOut os zs n 0).1 := by
  rw [← hW3, ← numB_one]
  have h := R73.out.set 0 1
  rw [show (List.replicate (n + 1) 0).set 0 1 = 1 :: List.replicate n 0 by rw [List.replicate_succ]; rfl] at h
  exact h
 have S8 : NRowT W3 g8 (tOut os zs n 0).2 := by rw [← hW3]; exact R8.out.other hne _
 have S1 : Blk W3 g1 (allB os n).toArray 4 := by rw [← hW3]; exact G13.out.other (by have := K7.out; have := N1.out; simp; omega) _
 have S2 : Blk W3 g2 (allB zs n).toArray 4 := by rw [← hW3]; exact G23.out.other (by have := K7.out; have := N2.out; simp; omega) _
 have SB : Below w.heap.size w W3 := by rw [← hW3]; exact B3.out.setCell (by have := K7.out; have := zw1.out; simp; omega) _
 rw [hW3]
 have T7 := hid S7; have T8 := hid S8; have T1 := hid S1; have T2 := hid S2; have TBl := hid SB; have NE := hid hne
 have Q7 := hid (show w.heap.size ≤ g7 by have := K7.out; have := zw1.out; omega); have Q8 := hid (show w.heap.size ≤ g8 by have := K7.out; have := K8.out; have := L7.out; have := zw1.out; omega)
 have M17 := hid (show g1 ≠ g7 by have := K7.out; have := N1.out; omega); have M18 := hid (show g1 ≠ g8 by have := K7.out; have := K8.out; have := L7.out; have := N1.out; omega)
 have M27 := hid (show g2 ≠ g7 by have := K7.out; have := N2.out; omega); have M28 := hid (show g2 ≠ g8 by have := K7.out; have := K8.out; have := L7.out; have := N2.out; omega)
 clear k0 k1 z0 z1 S7 S8 S1 S2 SB hne hW3 X7 R73 R8 G13 G23 B3 b3 R7 G12 G22 B2 b2 G1 G2 B1 K7 K8 L7 z12 zw1 N1 N2
 go_loopw [29] (fun ii wr => ∃ i : Nat, ii = .int .i64 (i : Nat) ∧ i ≤ n + 1 ∧ Hid (NRowT wr g7 (tOut os zs n i).1) ∧ Hid (NRowT wr g8 (tOut os zs n i).2) ∧ Hid (Blk wr g1 (allB os n).toArray 4) ∧ Hid (Blk wr g2 (allB zs n).toArray 4) ∧ Hid (Below w.heap.size w wr)) (fun ii wr => n + 1 - (intOf ii).toNat)
 case atStart => exact ⟨0, rfl, Nat.zero_le _, T7.out, T8.out, T1.out, T2.out, TBl.out⟩
 case round =>
  obtain ⟨i, rfl, hi, hg7, hg8, hg1, hg2, hB⟩ := hrel
  by_cases hlt : i < n + 1
  ·have q0 : decide ((i : Int) < ((n + 1 : Nat) : Int)) = true := by simp; omega
   have f0 : (0 : Int) ≤ (i : Int) := by omega
   have f1 : (i : Int) < ((n + 1 : Nat) : Int) := by omega
   have f2 : (i : Int) ≤ 1000 := by have := HN.out; omega
   have IL := hid hlt
   have TBI := hid (TB.outer (os := os) (zs := zs) h00.out n i hi)
   clear hi hlt
   go_wp2_with fail
   obtain ⟨x, hx⟩ : ∃ x, (tOut os zs n i).1.getD i 0 = x := ⟨_, rfl⟩
   obtain ⟨wo, rfl⟩ : ∃ wo : World, wo = wr := ⟨_, rfl⟩
   by_cases hx0 : x = 0
   ·have k0 : wo.cell? ⟨g7, i, none⟩ = some (.string (numB x)) := by rw [← hx]; exact hg7.out.cell (by rw [TBI.out.l1]; exact IL.out)
    have q1 : ((numB x).toList == [48]) = true := by rw [hx0, numB_zero]; exact lit_zero
    have hnext := hid (show tOut os zs n (i + 1) = tOut os zs n i from by rw [tOut, if_pos (by rw [hx]; exact hx0)])
    obtain ⟨sx, hsx⟩ : ∃ s, numB x = s := ⟨_, rfl⟩
    rw [hsx] at k0 q1
    clear hx hx0 hsx
    go_loopw [10] (fun jj wq => jj = .int .i64 0 ∧ wq = wo) (fun jj wq => 0)
    case atStart => exact ⟨rfl, rfl⟩
    case round =>
     obtain ⟨rfl, rfl⟩ := hrel
     go_wp2_with fail
     go_roundw
     case rel => exact ⟨i + 1, by go_num, by have := IL.out; omega, by rw [hnext.out]; exact hg7, by rw [hnext.out]; exact hg8, hg1, hg2, hB⟩
     case measure => simp [intOf] <;> (have := IL.out; omega)
   ·have q1 : ((numB x).toList == [48]) = false := ne_lit (l := [48]) (by rw [← numB_zero]; exact numB_ne hx0)
    have hnext := hid (show tOut os zs n (i + 1) = tIn os zs i (n + 1 - i) (tOut os zs n i) from by rw [tOut, if_neg (by rw [hx]; exact hx0)])
    obtain ⟨s0, hs0⟩ : ∃ s, tOut os zs n i = s := ⟨_, rfl⟩
    rw [hs0] at hx hg7 hg8 hnext TBI
    have HX := hid hx
    obtain ⟨sx, hsx⟩ : ∃ s, numB x = s := ⟨_, rfl⟩
    rw [hsx] at q1
    have HSX := hid hsx
    clear hx hx0 hsx hs0
    have d30 : decide ((i : Int) < (n : Int) + 1) = true := by have := IL.out; simp; omega
    rw [d30]
    clear d30
    go_loopw [10] (fun jj wq => ∃ j : Nat, jj = .int .i64 (j : Nat) ∧ i + j ≤ n + 1 ∧ Hid (NRowT wq g7 (tIn os zs i j s0).1) ∧ Hid (NRowT wq g8 (tIn os zs i j s0).2) ∧ Hid (Blk wq g1 (allB os n).toArray 4) ∧ Hid (Blk wq g2 (allB zs n).toArray 4) ∧ Hid (Below w.heap.size w wq)) (fun jj wq => n + 1 - (intOf jj).toNat)
    case atStart => exact ⟨0, rfl, by have := IL.out; omega, hg7, hg8, hg1, hg2, hB⟩
    case round =>
     clear hg7 hg8 hg1 hg2 hB
     obtain ⟨j, rfl, hj, hg7, hg8, hg1, hg2, hB⟩ := hrel
     have TBJ := hid (TB.inner (os := os) (zs := zs) h00.out TBI.out j hj)
     have k0 : wr.cell? ⟨g7, i, none⟩ = some (.string sx) := by
      refine (hg7.out.cell (by rw [TBJ.out.1.l1]; exact IL.out)).trans ?_
      rw [TBJ.out.2, HX.out, HSX.out]
     by_cases hlt : i + j ≤ n
     ·have q2 : decide ((i : Int) + (j : Int) ≤ (n : Int)) = true := by simp; omega
      have f5 : (0 : Int) ≤ (j : Int) := by omega
      have f6 : (j : Int) < ((n + 1 : Nat) : Int) := by omega
      have f7 : (j : Int) ≤ 1000 := by have := HN.out; omega
      have f8 : (i : Int) + (j : Int) < ((n + 1 : Nat) : Int) := by omega
      have f9 : (i : Int) + (j : Int) < (n : Int) + 1 := by omega
      have f10 : (0 : Int) ≤ (i : Int) + (j : Int) := by omega
      have c1 : wr.cell? ⟨g1, j, none⟩ = some (.bool (os j)) := (hg1.out.cell j).trans (by rw [List.getElem?_toArray, allB_get (by omega)])
      have c2 : wr.cell? ⟨g2, j, none⟩ = some (.bool (zs j)) := (hg2.out.cell j).trans (by rw [List.getElem?_toArray, allB_get (by omega)])
      have HLT := hid hlt
      obtain ⟨zj, hzj⟩ : ∃ b, zs j = b := ⟨_, rfl⟩
      obtain ⟨oj, hoj⟩ : ∃ b, os j = b := ⟨_, rfl⟩
      rw [hoj] at c1
      rw [hzj] at c2
      have HZJ := hid hzj; have HOJ := hid hoj
      clear hlt hj hzj hoj
      obtain ⟨y1, hy1⟩ : ∃ y, (tIn os zs i j s0).2.getD (i + j) 0 = y := ⟨_, rfl⟩
      obtain ⟨y2, hy2⟩ : ∃ y, (tIn os zs i j s0).1.getD (i + j) 0 = y := ⟨_, rfl⟩
      have p2 : 2 ^ (i + 1) = 2 ^ i + 2 ^ i := by rw [Nat.pow_succ]; omega
      have hxb : x ≤ 2 ^ i := by rw [← HX.out]; exact TBI.out.src
      have hy1b : y1 ≤ 2 ^ i := hy1 ▸ TBJ.out.1.hi2 _ (Nat.le_refl _)
      have hy2b : y2 ≤ 2 ^ i := hy2 ▸ TBJ.out.1.hi1 _ (Nat.le_refl _)
      have i1000 : i ≤ 1000 := by have := IL.out; have := HN.out; omega
      have dx := two_pow_digits hxb (by omega)
      have P1 := fun V hV => hid (p_plus V y1 x (two_pow_digits hy1b (by omega)) dx (two_pow_digits (i := i + 1) (by omega) (by omega)) hV)
      have P2 := fun V hV => hid (p_plus V y2 x (two_pow_digits hy2b (by omega)) dx (two_pow_digits (i := i + 1) (by omega) (by omega)) hV)
      have t1 : wr.cell? ⟨g8, i + j, none⟩ = some (.string (numB y1)) := by rw [← hy1]; exact hg8.out.cell (by rw [TBJ.out.1.l2]; have := HLT.out; omega)
      have t2 : wr.cell? ⟨g7, i + j, none⟩ = some (.string (numB y2)) := by rw [← hy2]; exact hg7.out.cell (by rw [TBJ.out.1.l1]; have := HLT.out; omega)
      rw [HSX.out] at P1 P2
      obtain ⟨u1, hu1⟩ : ∃ s, numB y1 = s := ⟨_, rfl⟩
      obtain ⟨u2, hu2⟩ : ∃ s, numB y2 = s := ⟨_, rfl⟩
      rw [hu1] at P1 t1
      rw [hu2] at P2 t2
      have HY1 := hid hy1; have HY2 := hid hy2; have HU2 := hid hu2
      have hstep := hid (show tIn os zs i (j + 1) s0 = (addAt oj (i + j) x (tIn os zs i j s0).1, addAt zj (i + j) x (tIn os zs i j s0).2) from by rw [tIn, tStep, HOJ.out, HZJ.out, TBJ.out.2, HX.out])
      obtain ⟨m1, hm1⟩ : ∃ s, numB (y1 + x) = s := ⟨_, rfl⟩
      obtain ⟨m2, hm2⟩ : ∃ s, numB (y2 + x) = s := ⟨_, rfl⟩
      rw [hm1] at P1
      rw [hm2] at P2
      have HM1 := hid hm1; have HM2 := hid hm2
      clear hm1 hm2
      clear hy1 hy2 p2 hxb hy1b hy2b i1000 dx hu1 hu2
      cases zj
      ·cases oj
       ·go_wp2_with fail
        go_roundw
        case rel => exact ⟨j + 1, by go_num, by have := HLT.out; omega, by rw [hstep.out]; exact hg7, by rw [hstep.out]; exact hg8, hg1, hg2, hB⟩
        case measure => simp [intOf] <;> (have := HLT.out; omega)
       ·go_wp2_with fail
        have ew : IntKind.i64.wrap ((i : Int) + (j : Int)) = (i : Int) + (j : Int) := by rw [IntWalk.i64_in _ ⟨by omega, by omega⟩]
        have et : ((i : Int) + (j : Int)).toNat = i + j := by omega
        refine held_lasts 15 2 [0, 1, 2, 3, 4, 5, 6, 7, 8, 9, 10, 11, 12, 13] 1 (fun W' => W'.cell? ⟨g7, i + j, none⟩ = some (.string u2) ∧ W'.cell? ⟨g7, i, none⟩ = some (.string sx)) (by kernel_rfl) rfl (by kernel_rfl) (by kernel_rfl) (by kernel_rfl) (by kernel_rfl) ⟨t2, k0⟩ ?_
        iterate 14
         refine ⟨_, rfl, ?_⟩
         apply Exists.intro
         refine ⟨.inl ⟨by rfl, ?_⟩, ?_⟩
         ·(intro W' hW'; obtain ⟨r1, r2⟩ := hW'; go_simp; try (with_reducible rfl))
         (dsimp only [Act.put]; try simp only [List.setIfInBounds_toArray, List.set_cons_zero, List.set_cons_succ])
        refine held_one (i := 14) (by kernel_rfl) (by rfl) (by rfl) ?_
        go_wp2_with fail
        refine (P2 _ (HL.out.below hB.out.drew HLL.out)).out.mono ?_; rintro e w5 ⟨rfl, hbc⟩
        have Ca := hid (show Below wr.heap.size wr w5 from (Below.refl _ _).drew.trans hbc)
        have E7a := hid (hg7.out.call Ca.out); have E8a := hid (hg8.out.call Ca.out); have E1a := hid (hg1.out.call Ca.out); have E2a := hid (hg2.out.call Ca.out); have EBa := hid (hB.out.trans (Ca.out.mono hB.out.size))
        have tca := (Ca.out.cell (cell_lt t2)).trans t2
        have kca := (Ca.out.cell (cell_lt k0)).trans k0
        clear hbc
        go_wp2_with fail
        refine ⟨⟨tca, kca⟩, ?_⟩
        refine wpAnyH_done (by kernel_rfl) ?_ _
        simp only [Only, ThenL, List.drop_succ_cons, List.drop_zero]
        have fza := E7a.out.free (i + j)
        clear kca
        go_wp2_with fail
        try simp only [Only]
        go_roundw
        case rel =>
         refine ⟨j + 1, by go_num, by have := HLT.out; omega, ?_, ?_, E1a.out.other (fun e => M17.out e.symm) _, E2a.out.other (fun e => M27.out e.symm) _, EBa.out.setCell Q7.out _⟩
         ·show NRowT _ _ _
          rw [hstep.out, addAt_true, HY2.out, ← HM2.out]
          exact E7a.out.set (i + j) (y2 + x)
         ·show NRowT _ _ _
          rw [hstep.out, addAt_false]
          exact E8a.out.other (fun e => NE.out e) _
        case measure => simp [intOf] <;> (have := HLT.out; omega)
      ·cases oj
       ·go_wp2_with fail
        have ew : IntKind.i64.wrap ((i : Int) + (j : Int)) = (i : Int) + (j : Int) := by rw [IntWalk.i64_in _ ⟨by omega, by omega⟩]
        have et : ((i : Int) + (j : Int)).toNat = i + j := by omega
        refine held_lasts 15 2 [0, 1, 2, 3, 4, 5, 6, 7, 8, 9, 10, 11, 12, 13] 1 (fun W' => W'.cell? ⟨g8, i + j, none⟩ = some (.string u1) ∧ W'.cell? ⟨g7, i, none⟩ = some (.string sx)) (by kernel_rfl) rfl (by kernel_rfl) (by kernel_rfl) (by kernel_rfl) (by kernel_rfl) ⟨t1, k0⟩ ?_
        iterate 14
         refine ⟨_, rfl, ?_⟩
         apply Exists.intro
         refine ⟨.inl ⟨by rfl, ?_⟩, ?_⟩
         ·(intro W' hW'; obtain ⟨r1, r2⟩ := hW'; go_simp; try (with_reducible rfl))
         (dsimp only [Act.put]; try simp only [List.setIfInBounds_toArray, List.set_cons_zero, List.set_cons_succ])
        refine held_one (i := 14) (by kernel_rfl) (by rfl) (by rfl) ?_
        go_wp2_with fail
        refine (P1 _ (HL.out.below hB.out.drew HLL.out)).out.mono ?_; rintro e w5 ⟨rfl, hbc⟩
        have Ca := hid (show Below wr.heap.size wr w5 from (Below.refl _ _).drew.trans hbc)
        have E7a := hid (hg7.out.call Ca.out); have E8a := hid (hg8.out.call Ca.out); have E1a := hid (hg1.out.call Ca.out); have E2a := hid (hg2.out.call Ca.out); have EBa := hid (hB.out.trans (Ca.out.mono hB.out.size))
        have tca := (Ca.out.cell (cell_lt t1)).trans t1
        have kca := (Ca.out.cell (cell_lt k0)).trans k0
        clear hbc
        go_wp2_with fail
        refine ⟨⟨tca, kca⟩, ?_⟩
        refine wpAnyH_done (by kernel_rfl) ?_ _
        simp only [Only, ThenL, List.drop_succ_cons, List.drop_zero]
        have fza := E8a.out.free (i + j)
        have c1s : (w5.setCell ⟨g8, i + j, none⟩ (.string m1)).cell? ⟨g1, j, none⟩ = some (.bool false) := ((E1a.out.other (a := ⟨g8, i + j, none⟩) (fun e => M18.out e.symm) (.string m1)).cell j).trans (by rw [List.getElem?_toArray, allB_get (by have := HLT.out; omega), HOJ.out])
        clear kca
        go_wp2_with fail
        try simp only [Only]
        go_roundw
        case rel =>
         refine ⟨j + 1, by go_num, by have := HLT.out; omega, ?_, ?_, E1a.out.other (fun e => M18.out e.symm) _, E2a.out.other (fun e => M28.out e.symm) _, EBa.out.setCell Q8.out _⟩
         ·show NRowT _ _ _
          rw [hstep.out, addAt_false]
          exact E7a.out.other (fun e => NE.out e.symm) _
         ·show NRowT _ _ _
          rw [hstep.out, addAt_true, HY1.out, ← HM1.out]
          exact E8a.out.set (i + j) (y1 + x)
        case measure => simp [intOf] <;> (have := HLT.out; omega)
       ·go_wp2_with fail
        have ew : IntKind.i64.wrap ((i : Int) + (j : Int)) = (i : Int) + (j : Int) := by rw [IntWalk.i64_in _ ⟨by omega, by omega⟩]
        have et : ((i : Int) + (j : Int)).toNat = i + j := by omega
        refine held_lasts 15 2 [0, 1, 2, 3, 4, 5, 6, 7, 8, 9, 10, 11, 12, 13] 1 (fun W' => W'.cell? ⟨g8, i + j, none⟩ = some (.string u1) ∧ W'.cell? ⟨g7, i, none⟩ = some (.string sx)) (by kernel_rfl) rfl (by kernel_rfl) (by kernel_rfl) (by kernel_rfl) (by kernel_rfl) ⟨t1, k0⟩ ?_
        iterate 14
         refine ⟨_, rfl, ?_⟩
         apply Exists.intro
         refine ⟨.inl ⟨by rfl, ?_⟩, ?_⟩
         ·(intro W' hW'; obtain ⟨r1, r2⟩ := hW'; go_simp; try (with_reducible rfl))
         (dsimp only [Act.put]; try simp only [List.setIfInBounds_toArray, List.set_cons_zero, List.set_cons_succ])
        refine held_one (i := 14) (by kernel_rfl) (by rfl) (by rfl) ?_
        go_wp2_with fail
        refine (P1 _ (HL.out.below hB.out.drew HLL.out)).out.mono ?_; rintro e w5 ⟨rfl, hbc⟩
        have Ca := hid (show Below wr.heap.size wr w5 from (Below.refl _ _).drew.trans hbc)
        have E7a := hid (hg7.out.call Ca.out); have E8a := hid (hg8.out.call Ca.out); have E1a := hid (hg1.out.call Ca.out); have E2a := hid (hg2.out.call Ca.out); have EBa := hid (hB.out.trans (Ca.out.mono hB.out.size))
        have tca := (Ca.out.cell (cell_lt t1)).trans t1
        have kca := (Ca.out.cell (cell_lt k0)).trans k0
        clear hbc
        go_wp2_with fail
        refine ⟨⟨tca, kca⟩, ?_⟩
        refine wpAnyH_done (by kernel_rfl) ?_ _
        simp only [Only, ThenL, List.drop_succ_cons, List.drop_zero]
        have fza := E8a.out.free (i + j)
        have c1s : (w5.setCell ⟨g8, i + j, none⟩ (.string m1)).cell? ⟨g1, j, none⟩ = some (.bool true) := ((E1a.out.other (a := ⟨g8, i + j, none⟩) (fun e => M18.out e.symm) (.string m1)).cell j).trans (by rw [List.getElem?_toArray, allB_get (by have := HLT.out; omega), HOJ.out])
        clear kca
        go_wp2_with fail
        try simp only [Only]
        obtain ⟨w6, hw6⟩ : ∃ W, w5.setCell ⟨g8, i + j, none⟩ (.string m1) = W := ⟨_, rfl⟩
        have F7 : Hid (NRowT w6 g7 (tIn os zs i j s0).1) := by rw [← hw6]; exact E7a.out.other (fun e => NE.out e.symm) _
        have F8 : Hid (NRowT w6 g8 ((tIn os zs i j s0).2.set (i + j) (y1 + x))) := by rw [← hw6, ← HM1.out]; exact E8a.out.set (i + j) (y1 + x)
        have F1 : Hid (Blk w6 g1 (allB os n).toArray 4) := by rw [← hw6]; exact E1a.out.other (fun e => M18.out e.symm) _
        have F2 : Hid (Blk w6 g2 (allB zs n).toArray 4) := by rw [← hw6]; exact E2a.out.other (fun e => M28.out e.symm) _
        have FB : Hid (Below w.heap.size w w6) := by rw [← hw6]; exact EBa.out.setCell Q8.out _
        have k6 : w6.cell? ⟨g7, i, none⟩ = some (.string sx) := by
         refine (F7.out.cell (by rw [TBJ.out.1.l1]; exact IL.out)).trans ?_
         rw [TBJ.out.2, HX.out, HSX.out]
        have t6 : w6.cell? ⟨g7, i + j, none⟩ = some (.string u2) := by
         refine (F7.out.cell (by rw [TBJ.out.1.l1]; have := HLT.out; omega)).trans ?_
         rw [HY2.out, HU2.out]
        rw [hw6]
        clear hw6 c1s fza tca ew t1 t2 k0
        have ew : IntKind.i64.wrap ((i : Int) + (j : Int)) = (i : Int) + (j : Int) := by rw [IntWalk.i64_in _ ⟨by omega, by omega⟩]
        have et : ((i : Int) + (j : Int)).toNat = i + j := by omega
        refine held_lasts 15 2 [0, 1, 2, 3, 4, 5, 6, 7, 8, 9, 10, 11, 12, 13] 1 (fun W' => W'.cell? ⟨g7, i + j, none⟩ = some (.string u2) ∧ W'.cell? ⟨g7, i, none⟩ = some (.string sx)) (by kernel_rfl) rfl (by kernel_rfl) (by kernel_rfl) (by kernel_rfl) (by kernel_rfl) ⟨t6, k6⟩ ?_
        iterate 14
         refine ⟨_, rfl, ?_⟩
         apply Exists.intro
         refine ⟨.inl ⟨by rfl, ?_⟩, ?_⟩
         ·(intro W' hW'; obtain ⟨r1, r2⟩ := hW'; go_simp; try (with_reducible rfl))
         (dsimp only [Act.put]; try simp only [List.setIfInBounds_toArray, List.set_cons_zero, List.set_cons_succ])
        refine held_one (i := 14) (by kernel_rfl) (by rfl) (by rfl) ?_
        go_wp2_with fail
        refine (P2 _ (HL.out.below FB.out.drew HLL.out)).out.mono ?_; rintro e w7 ⟨rfl, hbc⟩
        have Cb := hid (show Below w6.heap.size w6 w7 from (Below.refl _ _).drew.trans hbc)
        have E7b := hid (F7.out.call Cb.out); have E8b := hid (F8.out.call Cb.out); have E1b := hid (F1.out.call Cb.out); have E2b := hid (F2.out.call Cb.out); have EBb := hid (FB.out.trans (Cb.out.mono FB.out.size))
        have tcb := (Cb.out.cell (cell_lt t6)).trans t6
        have kcb := (Cb.out.cell (cell_lt k6)).trans k6
        clear hbc
        go_wp2_with fail
        refine ⟨⟨tcb, kcb⟩, ?_⟩
        refine wpAnyH_done (by kernel_rfl) ?_ _
        simp only [Only, ThenL, List.drop_succ_cons, List.drop_zero]
        have fzb := E7b.out.free (i + j)
        clear kcb
        go_wp2_with fail
        try simp only [Only]
        go_roundw
        case rel =>
         refine ⟨j + 1, by go_num, by have := HLT.out; omega, ?_, ?_, E1b.out.other (fun e => M17.out e.symm) _, E2b.out.other (fun e => M27.out e.symm) _, EBb.out.setCell Q7.out _⟩
         ·show NRowT _ _ _
          rw [hstep.out, addAt_true, HY2.out, ← HM2.out]
          exact E7b.out.set (i + j) (y2 + x)
         ·show NRowT _ _ _
          rw [hstep.out, addAt_true, addAt_true, HY1.out]
          exact E8b.out.other (fun e => NE.out e) _
        case measure => simp [intOf] <;> (have := HLT.out; omega)
     ·have q2 : decide ((i : Int) + (j : Int) ≤ (n : Int)) = false := by simp; omega
      have e1 : j = n + 1 - i := by omega
      have f7 : (j : Int) ≤ 1001 := by have := HN.out; omega
      have f5 : (0 : Int) ≤ (j : Int) := by omega
      subst e1
      clear hj hlt
      go_wp2_with fail
      go_roundw
      case rel => exact ⟨i + 1, by go_num, by have := IL.out; omega, by rw [hnext.out]; exact hg7, by rw [hnext.out]; exact hg8, hg1, hg2, hB⟩
      case measure => simp [intOf] <;> (have := IL.out; omega)
  ·have q0 : decide ((i : Int) < ((n + 1 : Nat) : Int)) = false := by simp; omega
   have e1 : i = n + 1 := by omega
   subst e1
   go_wp2_with fail
   go_ret
   exact ⟨⟨g8, rfl, Q8.out, by rw [HOS.out, HZS.out]; exact hg8.out⟩, hB.out⟩
open Go.Shelf
theorem g_power (w : World) (n : Nat) (hn : n ≤ 1000) (hL : Lay w) :
 Calls Tryz.prog 96 #[.int .i64 n] w fun e w' => e = .returned (.string (numB (2 ^ n))) ∧ Below w.heap.size w w' := by
 have HP := hid (n_Pow_ok w ⟨#[50]⟩ n errN_two (by omega) (by rw [bN_two]; exact two_digits hn) hL)
 rw [bN_two] at HP
 clear hn hL
 go_enter Tryz.func96, Tryz.ntmps96
 go_wp2_with fail
 refine HP.out.mono ?_; rintro e w1 ⟨rfl, hb1⟩
 have b1 := hid hb1; clear hb1
 go_wp2_with fail
 go_ret
 exact ⟨rfl, b1.out⟩
end Go.Proofs.YtgphopkifomffaaGreatDoor
namespace Go.Proofs.YtgphopkifomffaaGreatDoor
open Go.RowKit
open Go.Lib (decDigits nDigits)
def OwnR (w : World) (H n : Nat) (v : Value) (l : List Nat) : Prop := ∃ g, v = .slice (some ⟨g, 0, none⟩) (n + 1) (n + 1) ∧ H ≤ g ∧ NRowT w g l
def lateL (two : Bool) (L : List Nat) (n : Nat) : List Nat := if two = true then cOut L n (n + 1) else L
theorem g_late (w : World) (a : ByteArray) (n N D : Nat) (two : Bool) (ha : a.size ≤ 100000) (he : gPE a = 0) (hn : n ≤ 256) (hN : bN (cW a) = N) (hD : bN (qD a) = D) (hND : N < D) (hL : Lay w)
 (hR : ∀ i, i ≤ n → (lateL two (tOut (oneJ N D) (zeroJ N D) n (n + 1)).2 n).getD i 0 * 2 ^ (n - i) ≤ rIn (lateL two (tOut (oneJ N D) (zeroJ N D) n (n + 1)).2 n) n i) :
 Calls Tryz.prog 92 #[.string a, .int .i64 n, .bool two] w fun e w' => e = .returned (.tuple #[.string (outB (qmk false (rIn (lateL two (tOut (oneJ N D) (zeroJ N D) n (n + 1)).2 n) n (n + 1)) (2 ^ n))), .int .i64 0]) ∧ Below w.heap.size w w' := by
 have HA := hid (g_ratio w a ha hL)
 rw [if_pos he, if_pos he, he] at HA
 have HT := fun V hV => hid (g_totals V a n N D ha he (by omega) hN hD hND hV)
 have HRep := fun V g h => hid (s_Repeat V g (n + 1) ⟨#[48]⟩ (by omega) (by omega) h)
 have hLb := tab_bound (os := oneJ N D) (zs := zeroJ N D) rfl hn
 obtain ⟨L, hL0⟩ : ∃ L, (tOut (oneJ N D) (zeroJ N D) n (n + 1)).2 = L := ⟨_, rfl⟩
 have HLQ := hid hL0
 rw [hL0] at hLb hR ⊢
 have HLb := hid hLb
 have hM : (lateL two L n).length = n + 1 ∧ ∀ k, (lateL two L n).getD k 0 ≤ 2 ^ e7 := by
  unfold lateL
  split
  ·have h := CB.outer hLb.2 (n + 1) (Nat.le_refl (n + 1))
   exact ⟨h.len, fun k => conv_bound hn (Nat.le_refl _) (h.up k)⟩
  ·exact ⟨hLb.1, fun k => Nat.le_trans (hLb.2 k) (Nat.pow_le_pow_right (by omega) (by unfold e3 e7; omega))⟩
 obtain ⟨M, hM0⟩ : ∃ M, lateL two L n = M := ⟨_, rfl⟩
 have HMQ := hid hM0
 rw [hM0] at hM hR ⊢
 have HMb := hid hM; have HR := hid hR
 have hmk := mk_num (a := rIn M n (n + 1)) (b := 2 ^ n) (two_pow_digits (rIn_le M n _) (by omega)) (two_pow_digits (Nat.le_refl _) (by omega)) (by have := Nat.pow_pos (n := n) (show 0 < 2 by omega); omega)
 have hov : ¬ ovQ (qmk false (rIn M n (n + 1)) (2 ^ n)) := by
  have hd : 0 < 2 ^ n := Nat.pow_pos (by omega)
  unfold ovQ
  rw [qmk_num hd, qmk_den hd, sgn_natAbs]
  have h1 := nDigits_mono (Nat.div_le_self (rIn M n (n + 1)) (Nat.gcd (rIn M n (n + 1)) (2 ^ n)))
  have h2 := nDigits_mono (Nat.div_le_self (2 ^ n) (Nat.gcd (rIn M n (n + 1)) (2 ^ n)))
  have h3 := two_pow_digits (rIn_le M n (n + 1)) (by omega)
  have h4 := two_pow_digits (Nat.le_refl (2 ^ n)) (by omega)
  omega
 have HQM := fun V hV => hid (q_Make V (numB (rIn M n (n + 1))) (numB (2 ^ n)) (numB_sz (two_pow_digits (rIn_le M n _) (by omega))) (numB_sz (two_pow_digits (Nat.le_refl _) (by omega))) hV)
 rw [hmk.1, hmk.2, outE_ok hov] at HQM
 obtain ⟨out, hout⟩ : ∃ o, outB (qmk false (rIn M n (n + 1)) (2 ^ n)) = o := ⟨_, rfl⟩
 rw [hout] at HQM ⊢
 have HLy := hid hL; have HLL := hid hL.lt; have HN := hid hn
 have wn : IntKind.i64.wrap ((n : Int) + 1) = ((n + 1 : Nat) : Int) := by rw [IntWalk.i64_in _ ⟨by omega, by omega⟩]; omega
 have q0 : decide ((n : Int) < 0) = false := by simp
 have q1 : decide ((256 : Int) < (n : Int)) = false := by simp; omega
 have n256 : (n : Int) ≤ 256 := by omega
 clear ha he hn hN hD hND hL hR hLb hL0 hM hM0 hmk hov hout
 go_enter Tryz.func92, Tryz.ntmps92
 go_wp2_with fail
 refine HA.out.mono ?_; rintro e w1 ⟨rfl, hb1⟩
 have B1 := hid hb1
 clear hb1 HA
 go_wp2_with fail
 refine (HT _ (HLy.out.call B1.out)).out.mono ?_; rintro e w2 ⟨⟨g11, rfl, h11, hr11⟩, hb2⟩
 rw [HLQ.out] at hr11
 have R11 := hid hr11; have B2 := hid (bnext B1.out hb2); have K11 := hid (show w.heap.size ≤ g11 from Nat.le_trans B1.out.size h11)
 clear h11 hr11 hb2 HT
 go_upto_if 38 with fail
 go_cut [11] (fun s11 wx => OwnR wx w.heap.size n s11 M ∧ Below w.heap.size w wx)
 case first =>
  cases two
  ·go_wp2_with fail
   go_meet
   exact ⟨⟨g11, rfl, K11.out, by rw [← HMQ.out]; exact R11.out⟩, B2.out⟩
  ·go_wp2_with fail
   refine (HRep _ _ ((Blk.new w2 _ _).cell 0)).out.mono ?_; rintro e w3 ⟨rfl, hg8, hb3⟩
   obtain ⟨g12, h8⟩ : ∃ g, (w2.alloc (.cells #[.string ⟨#[48]⟩] 22)).heap.size = g := ⟨_, rfl⟩
   rw [h8] at hg8 ⊢
   have R12 := hid (NRowT.zeros hg8)
   have a2 := (Below.refl w2.heap.size w2).alloc (Nat.le_refl _) (.cells #[.string ⟨#[48]⟩] 22)
   have b3 := hid (bnext a2 hb3)
   have B3 := hid (bnext B2.out b3.out); have R113 := hid (R11.out.call b3.out)
   have K12 := hid (show w.heap.size ≤ g12 by rw [← h8]; have := B2.out.size; simp; omega)
   have NE := hid (show g11 ≠ g12 by have := R11.out.lt; rw [← h8]; simp; omega)
   clear hg8 hb3 a2 h8 HRep b3
   have hc0 := hid (show NRowT w3 g12 (cOut L n 0) from R12.out)
   go_wp2_with fail
   go_loopw [45] (fun ii wr => ∃ i : Nat, ii = .int .i64 (i : Nat) ∧ i ≤ n + 1 ∧ Hid (NRowT wr g12 (cOut L n i)) ∧ Hid (NRowT wr g11 L) ∧ Hid (Below w.heap.size w wr)) (fun ii wr => n + 1 - (intOf ii).toNat)
   case atStart => exact ⟨0, rfl, Nat.zero_le _, hc0, R113, B3⟩
   case round =>
    obtain ⟨i, rfl, hi, hg12, hg11, hB⟩ := hrel
    by_cases hlt : i < n + 1
    ·have q5 : decide ((i : Int) < ((n + 1 : Nat) : Int)) = true := by simp; omega
     have f0 : (0 : Int) ≤ (i : Int) := by omega
     have f1 : (i : Int) < ((n + 1 : Nat) : Int) := by omega
     have f2 : (i : Int) ≤ 256 := by have := HN.out; omega
     have IL := hid hlt
     have CBI := hid (CB.outer (n := n) HLb.out.2 i hi)
     clear hi hlt
     go_wp2_with fail
     have d30 : decide ((i : Int) < (n : Int) + 1) = true := by have := IL.out; simp; omega
     try rw [d30]
     clear d30
     obtain ⟨wo, rfl⟩ : ∃ wo : World, wo = wr := ⟨_, rfl⟩
     obtain ⟨m0, hm0⟩ : ∃ s, cOut L n i = s := ⟨_, rfl⟩
     have hnext := hid (show cOut L n (i + 1) = cIn L i (n + 1 - i) m0 from by rw [cOut, hm0])
     rw [hm0] at hg12 CBI
     clear hm0
     go_loopw [14] (fun jj wq => ∃ j : Nat, jj = .int .i64 (j : Nat) ∧ i + j ≤ n + 1 ∧ Hid (NRowT wq g12 (cIn L i j m0)) ∧ Hid (NRowT wq g11 L) ∧ Hid (Below w.heap.size w wq)) (fun jj wq => n + 1 - (intOf jj).toNat)
     case atStart => exact ⟨0, rfl, by have := IL.out; omega, hg12, hg11, hB⟩
     case round =>
      clear hg12 hg11 hB
      obtain ⟨j, rfl, hj, hg12, hg11, hB⟩ := hrel
      have CBJ := hid (CB.inner CBI.out HLb.out.2 j hj)
      by_cases hlt : i + j ≤ n
      ·have q6 : decide ((i : Int) + (j : Int) ≤ (n : Int)) = true := by simp; omega
       have f5 : (0 : Int) ≤ (j : Int) := by omega
       have f6 : (j : Int) < ((n + 1 : Nat) : Int) := by omega
       have f7 : (j : Int) ≤ 256 := by have := HN.out; omega
       have f8 : (i : Int) + (j : Int) < ((n + 1 : Nat) : Int) := by omega
       have f9 : (i : Int) + (j : Int) < (n : Int) + 1 := by omega
       have f10 : (0 : Int) ≤ (i : Int) + (j : Int) := by omega
       have f11 : (j : Int) < (n : Int) + 1 := by omega
       have HLT := hid hlt
       obtain ⟨y, hy⟩ : ∃ y, (cIn L i j m0).getD (i + j) 0 = y := ⟨_, rfl⟩
       obtain ⟨x1, hx1⟩ : ∃ y, L.getD i 0 = y := ⟨_, rfl⟩
       obtain ⟨x2, hx2⟩ : ∃ y, L.getD j 0 = y := ⟨_, rfl⟩
       have b1 : x1 ≤ 2 ^ e3 := hx1 ▸ HLb.out.2 i
       have b2 : x2 ≤ 2 ^ e3 := hx2 ▸ HLb.out.2 j
       have tb : i * (n + 1) + j + 1 ≤ (n + 1) * (n + 1) := by
        have h1 : (i + 1) * (n + 1) ≤ (n + 1) * (n + 1) := Nat.mul_le_mul_right _ (by omega)
        rw [Nat.succ_mul] at h1
        omega
       have by0 : y ≤ 2 ^ e7 := hy ▸ conv_bound HN.out (t := i * (n + 1) + j) (by omega) (CBJ.out.up (i + j))
       have bm : x1 * x2 ≤ 2 ^ e7 := by
        have h1 := Nat.mul_le_mul b1 b2
        rw [← Nat.pow_add] at h1
        exact Nat.le_trans h1 (Nat.pow_le_pow_right (by omega) (by unfold e3 e7; omega))
       have bs : y + x1 * x2 ≤ 2 ^ (e7 + 1) := by rw [Nat.pow_succ]; omega
       have e37 : e3 ≤ 3000 ∧ e7 + 1 ≤ 3000 := by unfold e3 e7; omega
       have P1 := fun V hV => hid (p_times V x1 x2 (two_pow_digits b1 e37.1) (two_pow_digits b2 e37.1) (two_pow_digits bm (by omega)) hV)
       have P2 := fun V hV => hid (p_plus V y (x1 * x2) (two_pow_digits by0 (by omega)) (two_pow_digits bm (by omega)) (two_pow_digits bs e37.2) hV)
       have t1 : wr.cell? ⟨g12, i + j, none⟩ = some (.string (numB y)) := by rw [← hy]; exact hg12.out.cell (by rw [CBJ.out.len]; have := HLT.out; omega)
       have t2 : wr.cell? ⟨g11, i, none⟩ = some (.string (numB x1)) := by rw [← hx1]; exact hg11.out.cell (by rw [HLb.out.1]; exact IL.out)
       have t3 : wr.cell? ⟨g11, j, none⟩ = some (.string (numB x2)) := by rw [← hx2]; exact hg11.out.cell (by rw [HLb.out.1]; have := HLT.out; omega)
       obtain ⟨u1, hu1⟩ : ∃ s, numB y = s := ⟨_, rfl⟩
       obtain ⟨u2, hu2⟩ : ∃ s, numB x1 = s := ⟨_, rfl⟩
       obtain ⟨u3, hu3⟩ : ∃ s, numB x2 = s := ⟨_, rfl⟩
       obtain ⟨u4, hu4⟩ : ∃ s, numB (x1 * x2) = s := ⟨_, rfl⟩
       obtain ⟨u5, hu5⟩ : ∃ s, numB (y + x1 * x2) = s := ⟨_, rfl⟩
       rw [hu2, hu3, hu4] at P1
       rw [hu1, hu4, hu5] at P2
       rw [hu1] at t1
       rw [hu2] at t2
       rw [hu3] at t3
       have hstep := hid (show cIn L i (j + 1) m0 = (cIn L i j m0).set (i + j) (y + x1 * x2) from by rw [cIn, cStep, hy, hx1, hx2])
       have HU5 := hid hu5
       clear hy hx1 hx2 b1 b2 tb by0 bm bs e37 hu1 hu2 hu3 hu4 hu5 hlt hj
       go_wp2_with fail
       have ew : IntKind.i64.wrap ((i : Int) + (j : Int)) = (i : Int) + (j : Int) := by rw [IntWalk.i64_in _ ⟨by omega, by omega⟩]
       have et : ((i : Int) + (j : Int)).toNat = i + j := by omega
       refine held_lasts 20 2 [0, 1, 2, 3, 4, 5, 6, 7, 8, 9, 10, 11, 12, 13, 14, 15, 16, 17] 2 (fun W' => W'.cell? ⟨g12, i + j, none⟩ = some (.string u1) ∧ W'.cell? ⟨g11, i, none⟩ = some (.string u2) ∧ W'.cell? ⟨g11, j, none⟩ = some (.string u3)) (by kernel_rfl) rfl (by kernel_rfl) (by kernel_rfl) (by kernel_rfl) (by kernel_rfl) ⟨t1, t2, t3⟩ ?_
       iterate 18
        refine ⟨_, rfl, ?_⟩
        apply Exists.intro
        refine ⟨.inl ⟨by rfl, ?_⟩, ?_⟩
        ·(intro W' hW'; obtain ⟨r1, r2, r3⟩ := hW'; go_simp; try (with_reducible rfl))
        (dsimp only [Act.put]; try simp only [List.setIfInBounds_toArray, List.set_cons_zero, List.set_cons_succ])
       refine held_one (i := 18) (by kernel_rfl) (by rfl) (by rfl) ?_
       go_wp2_with fail
       refine (P1 _ (HLy.out.below hB.out.drew HLL.out)).out.mono ?_; rintro e w5 ⟨rfl, hbc⟩
       have C5 := hid (show Below wr.heap.size wr w5 from (Below.refl _ _).drew.trans hbc)
       have E5 := hid (hg12.out.call C5.out); have F5 := hid (hg11.out.call C5.out); have EB5 := hid (hB.out.trans (C5.out.mono hB.out.size))
       have s1 := (C5.out.cell (cell_lt t1)).trans t1
       have s2 := (C5.out.cell (cell_lt t2)).trans t2
       have s3 := (C5.out.cell (cell_lt t3)).trans t3
       clear hbc t1 t2 t3
       go_wp2_with fail
       refine ⟨⟨s1, s2, s3⟩, ?_⟩
       refine held_one (i := 19) (by kernel_rfl) (by rfl) (by rfl) ?_
       go_wp2_with fail
       refine (P2 _ (HLy.out.below EB5.out HLL.out)).out.mono ?_; rintro e w6 ⟨rfl, hbc⟩
       have E6 := hid (E5.out.call hbc); have F6 := hid (F5.out.call hbc); have EB6 := hid (EB5.out.trans (hbc.mono EB5.out.size))
       have v1 := (hbc.cell (cell_lt s1)).trans s1
       have v2 := (hbc.cell (cell_lt s2)).trans s2
       have v3 := (hbc.cell (cell_lt s3)).trans s3
       clear hbc s1 s2 s3
       go_wp2_with fail
       refine ⟨⟨v1, v2, v3⟩, ?_⟩
       refine wpAnyH_done (by kernel_rfl) ?_ _
       simp only [Only, ThenL, List.drop_succ_cons, List.drop_zero]
       have fz := E6.out.free (i + j)
       clear v2 v3
       go_wp2_with fail
       try simp only [Only]
       go_roundw
       case rel =>
        refine ⟨j + 1, by go_num, by have := HLT.out; omega, ?_, F6.out.other (fun e => NE.out e.symm) _, EB6.out.setCell K12.out _⟩
        show NRowT _ _ _
        rw [hstep.out, ← HU5.out]
        exact E6.out.set (i + j) (y + x1 * x2)
       case measure => simp [intOf] <;> (have := HLT.out; omega)
      ·have q6 : decide ((i : Int) + (j : Int) ≤ (n : Int)) = false := by simp; omega
       have e1 : j = n + 1 - i := by omega
       have f7 : (j : Int) ≤ 257 := by have := HN.out; omega
       have f5 : (0 : Int) ≤ (j : Int) := by omega
       subst e1
       clear hj hlt
       go_wp2_with fail
       go_roundw
       case rel => exact ⟨i + 1, by go_num, by have := IL.out; omega, by rw [hnext.out]; exact hg12, hg11, hB⟩
       case measure => simp [intOf] <;> (have := IL.out; omega)
    ·have q5 : decide ((i : Int) < ((n + 1 : Nat) : Int)) = false := by simp; omega
     have e1 : i = n + 1 := by omega
     subst e1
     go_wp2_with fail
     go_meet
     exact ⟨⟨g12, rfl, K12.out, by rw [← HMQ.out]; exact hg12.out⟩, hB.out⟩
 case rest =>
  obtain ⟨⟨g, rfl, hg, hrow⟩, hB⟩ := hcut
  have RG := hid hrow; have KG := hid hg; have B3 := hid hB
  have HPow := fun V k (hk : k ≤ 256) hV => hid (g_power V k (by omega) hV)
  clear hrow hg hB
  go_wp2_with fail
  refine (HPow _ n HN.out (HLy.out.call B3.out)).out.mono ?_; rintro e w4 ⟨rfl, hb4⟩
  have RG4 := hid (RG.out.call hb4); have B4 := hid (bnext B3.out hb4)
  clear hb4
  go_wp2_with fail
  go_loopw [15, 82] (fun rr ii wr => ∃ i : Nat, ii = .int .i64 (i : Nat) ∧ i ≤ n + 1 ∧ rr = .string (numB (rIn M n i)) ∧ Hid (NRowT wr g M) ∧ Hid (Below w.heap.size w wr)) (fun rr ii wr => n + 1 - (intOf ii).toNat)
  case atStart => exact ⟨0, rfl, Nat.zero_le _, rfl, RG4, B4⟩
  case round =>
   obtain ⟨i, rfl, hi, rfl, hrow, hB⟩ := hrel
   by_cases hlt : i < n + 1
   ·have q5 : decide ((i : Int) < ((n + 1 : Nat) : Int)) = true := by simp; omega
    have f0 : (0 : Int) ≤ (i : Int) := by omega
    have f1 : (i : Int) < ((n + 1 : Nat) : Int) := by omega
    have f2 : (i : Int) ≤ 256 := by have := HN.out; omega
    have f3 : (i : Int) ≤ (n : Int) := by omega
    have w1' : IntKind.i64.wrap ((n : Int) - (i : Int)) = ((n - i : Nat) : Int) := by rw [IntWalk.i64_in _ ⟨by omega, by omega⟩]; omega
    have IL := hid hlt
    obtain ⟨x, hx⟩ : ∃ x, M.getD i 0 = x := ⟨_, rfl⟩
    have t1 : wr.cell? ⟨g, i, none⟩ = some (.string (numB x)) := by rw [← hx]; exact hrow.out.cell (by rw [HMb.out.1]; exact IL.out)
    have bx : x ≤ 2 ^ e7 := hx ▸ HMb.out.2 i
    have hle : x * 2 ^ (n - i) ≤ rIn M n i := hx ▸ HR.out i (by omega)
    have hnx := hid (show rIn M n (i + 1) = rIn M n i - x * 2 ^ (n - i) from by rw [rIn, hx])
    have br := rIn_le M n i
    obtain ⟨r, hr⟩ : ∃ r, rIn M n i = r := ⟨_, rfl⟩
    rw [hr] at hle hnx br ⊢
    have P1 := fun V hV => hid (p_times V x (2 ^ (n - i)) (two_pow_digits bx (by unfold e7; omega)) (two_pow_digits (Nat.le_refl _) (by omega)) (two_pow_digits (Nat.le_trans hle br) (by have := HN.out; omega)) hV)
    have P2 := fun V hV => hid (p_sub V r (x * 2 ^ (n - i)) (two_pow_digits br (by have := HN.out; omega)) (two_pow_digits (Nat.le_trans hle br) (by have := HN.out; omega)) hle hV)
    have P0 := fun V hV => (HPow V (n - i) (by have := HN.out; omega) hV)
    obtain ⟨u1, hu1⟩ : ∃ s, numB x = s := ⟨_, rfl⟩
    obtain ⟨u2, hu2⟩ : ∃ s, numB (2 ^ (n - i)) = s := ⟨_, rfl⟩
    obtain ⟨u3, hu3⟩ : ∃ s, numB (x * 2 ^ (n - i)) = s := ⟨_, rfl⟩
    obtain ⟨u4, hu4⟩ : ∃ s, numB r = s := ⟨_, rfl⟩
    obtain ⟨u5, hu5⟩ : ∃ s, numB (r - x * 2 ^ (n - i)) = s := ⟨_, rfl⟩
    rw [hu2] at P0
    rw [hu1, hu2, hu3] at P1
    rw [hu3, hu4, hu5] at P2
    rw [hu1] at t1
    rw [hu4]
    have HU5 := hid hu5
    clear hx bx hle br hr hu1 hu2 hu3 hu4 hu5 hi hlt HPow
    go_wp2_with fail
    refine (P0 _ (HLy.out.below hB.out HLL.out)).out.mono ?_; rintro e w5 ⟨rfl, hb5⟩
    have R5 := hid (hrow.out.call hb5); have B5 := hid (hB.out.trans (hb5.mono hB.out.size))
    clear hb5 t1
    go_wp2_with fail
    refine (P1 _ (HLy.out.below B5.out HLL.out)).out.mono ?_; rintro e w6 ⟨rfl, hb6⟩
    have R6 := hid (R5.out.call hb6); have B6 := hid (B5.out.trans (hb6.mono B5.out.size))
    clear hb6
    go_wp2_with fail
    refine (P2 _ (HLy.out.below B6.out HLL.out)).out.mono ?_; rintro e w7 ⟨rfl, hb7⟩
    have R7 := hid (R6.out.call hb7); have B7 := hid (B6.out.trans (hb7.mono B6.out.size))
    clear hb7 w1'
    go_wp2_with fail
    go_roundw
    case rel => exact ⟨i + 1, by go_num, by have := IL.out; omega, by rw [hnx.out, HU5.out], R7, B7⟩
    case measure => simp [intOf] <;> (have := IL.out; omega)
   ·have q5 : decide ((i : Int) < ((n + 1 : Nat) : Int)) = false := by simp; omega
    have e1 : i = n + 1 := by omega
    subst e1
    obtain ⟨u1, hu1⟩ : ∃ s, numB (rIn M n (n + 1)) = s := ⟨_, rfl⟩
    obtain ⟨u2, hu2⟩ : ∃ s, numB (2 ^ n) = s := ⟨_, rfl⟩
    have P0 := fun V hV => (HPow V n HN.out hV)
    rw [hu1, hu2] at HQM
    rw [hu2] at P0
    rw [hu1]
    clear hu1 hu2 HPow hi hlt
    go_wp2_with fail
    refine (P0 _ (HLy.out.below hB.out HLL.out)).out.mono ?_; rintro e w5 ⟨rfl, hb5⟩
    have B5 := hid (hB.out.trans (hb5.mono hB.out.size))
    clear hb5
    go_wp2_with fail
    refine (HQM _ (HLy.out.below B5.out HLL.out)).out.mono ?_; rintro e w6 ⟨rfl, hb6⟩
    have B6 := hid (B5.out.trans (hb6.mono B5.out.size))
    clear hb6
    go_wp2_with fail
    go_ret2
    exact ⟨rfl, B6.out⟩
end Go.Proofs.YtgphopkifomffaaGreatDoor
