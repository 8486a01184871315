/- Texts that the proof rests on, merged: Gd1, Gd2, Sw2, AtZ, Df0, KoA, Sa6, QC, LtP, Rt6, Rt7, Cr0, Lr0, Fx0, Fd14, Slt, Slb, Sq2, Sw0, Sw1, Fd9, Fd10, FrC, Rt4i, RtC, ChLt. -/
import Derived.Test.YtlmnpocifldpmaaGreatDoorKa8
import Derived.Maps.RangeWalk
import Derived.Maps.StringElems
import Derived.Maps.OwnSet
import Derived.Deep.DeepCutAuto
import Derived.Lib.SliceRun
import Derived.Deep.AppendLies
import Derived.Maps.AppendAt
import Derived.WalkLawsBesides
import Derived.IntWalk
set_option linter.unusedVariables false
set_option linter.unusedSimpArgs false
set_option linter.unusedSectionVars false
set_option maxRecDepth 100000
set_option maxHeartbeats 8000000
namespace Go.Proofs.YtlmnpocifldpmaaGreatDoor
open Go.RowKit
open Go.Sort
open Go.Shelf
open Go.Maps
open Go.Lib (decDigits nDigits)
def prL (N D : Nat) (two : Bool) (n : Nat) (vs : List Int) : List (ByteArray × ByteArray) := vs.map fun v => (zB v, shB (gV N D two n v) (2 ^ n))
theorem prL_snoc (N D : Nat) (two : Bool) (n : Nat) (vs : List Int) (v : Int) : prL N D two n (vs ++ [v]) = prL N D two n vs ++ [(zB v, shB (gV N D two n v) (2 ^ n))] := by simp [prL]
theorem seen_len {n : Nat} {vs : List Int} (hn : vs.Nodup) (hb : ∀ v ∈ vs, -(n : Int) ≤ v ∧ v ≤ n) : vs.length ≤ 2 * n + 1 := by
 have h := seen_sum (fun _ => 1) n vs hn hb
 have h2 : sumN (fun j => if ((j : Int) - n) ∈ vs then 1 else 0) (2 * n + 1) ≤ sumN (fun _ => 1) (2 * n + 1) := sumN_le fun j _ => by split <;> omega
 have h3 : ∀ m, sumN (fun _ => 1) m = m := fun m => by
  induction m with
  | zero => rfl
  | succ m ih => rw [sumN, ih]
 have h4 : ∀ l : List Int, (l.map fun _ => 1).sum = l.length := fun l => by
  induction l with
  | nil => rfl
  | cons a r ih => rw [List.map_cons, List.sum_cons, ih, List.length_cons]; omega
 rw [h3] at h2
 rw [h4] at h
 omega
theorem g_listed_ok {H : Type} (w : World) (a : ByteArray) (n N D : Nat) (two : Bool) (ha : a.size ≤ 100000) (he : gPE a = 0) (hn : n ≤ 32) (hN : bN (cW a) = N) (hD : bN (qD a) = D) (hND : N < D) (hL : Lay w) :
 Calls Tryz.prog 154 #[.string a, .int .i64 n, .bool two] w fun e w' => (∃ v, e = .returned (.tuple #[v, .int .i64 0]) ∧ MRow w' v (sortM (glP (gV N D two n) (2 ^ n) n (gL N D two n)))) ∧ Below w.heap.size w w' := by
 have HA := hid (g_ratio w a ha hL)
 rw [if_pos he, if_pos he, he] at HA
 have HLAW : ∀ V, Lay V → Hid (Calls Tryz.prog 218 #[.string a, .int .i64 n, .bool two] V fun e w' => (∃ B nn Dm, e = .returned (.map (some B)) ∧ V.heap.size ≤ B ∧ nn ≤ 3000000 ∧ w'.ownsMap Tryz.prog 3 (plainElem (H := H) Tryz.prog 22) B nn Dm ∧ ReadsI Dm (gV N D two n)) ∧ Below V.heap.size V w') := fun V hV => by
  cases two
  ·exact g_law1 V a n N D ha he hn hN hD hND hV
  ·exact g_law2 V a n N D ha he hn hN hD hND hV
 have HPW := fun V hV => hid (g_power V n (by omega) hV)
 have HSL : Hid (∀ vs left, Seen (gV N D two n) n left vs → (vs.map (gV N D two n)).sum ≤ 2 ^ n) := fun vs left h => h.sum_le hND
 have HSA : Hid (∀ vs left, Seen (gV N D two n) n left vs → (∀ v, left v = false) → 2 ^ n - (vs.map (gV N D two n)).sum = gL N D two n) := fun vs left h hl => h.sum_all hND hl
 have HSP : Hid (∀ vs left, Seen (gV N D two n) n left vs → (∀ v, left v = false) → ∀ r, ((prL N D two n vs ++ if r = 0 then [] else [(lateB, shB r (2 ^ n))]).map keyL).Nodup ∧ sortM (prL N D two n vs ++ if r = 0 then [] else [(lateB, shB r (2 ^ n))]) = sortM (glP (gV N D two n) (2 ^ n) n r)) := fun vs left h hl r => h.pairs hND hl
 have HVS : Hid (∀ vs left, Seen (gV N D two n) n left vs → vs.length ≤ 100) := fun vs left h => by
  have h1 := seen_len h.nd fun v hv => by
   have h1 := ((h.mem v).1 hv).1
   rcases Int.lt_or_le v (-(n : Int)) with h2 | h2
   ·exact absurd (gV_out hND (.inl h2)) h1
   ·rcases Int.lt_or_le (n : Int) v with h3 | h3
    ·exact absurd (gV_out hND (.inr h3)) h1
    ·exact ⟨h2, h3⟩
  omega
 have HOUT : Hid (∀ v, gV N D two n v ≠ 0 → -100 ≤ v ∧ v ≤ 100) := fun v h1 => by
  rcases Int.lt_or_le v (-(n : Int)) with h2 | h2
  ·exact absurd (gV_out hND (.inl h2)) h1
  ·rcases Int.lt_or_le (n : Int) v with h3 | h3
   ·exact absurd (gV_out hND (.inr h3)) h1
   ·omega
 have HGV : Hid (∀ v, gV N D two n v ≤ 2 ^ n) := fun v => gV_le hND two n v
 have hpn : 2 ^ n ≤ 2 ^ 32 := Nat.pow_le_pow_right (by omega) hn
 have dT := two_pow_digits hpn (by omega)
 have hT0 : 2 ^ n ≠ 0 := Nat.ne_of_gt (Nat.pow_pos (by omega))
 have HMK : ∀ x, x ≤ 2 ^ n → ∀ V, Lay V → Hid (Calls Tryz.prog 210 #[.string (numB x), .string (numB (2 ^ n))] V fun e w' => e = .returned (.tuple #[.string (shB x (2 ^ n)), .int .i64 (outE (qmk false x (2 ^ n)))]) ∧ Below V.heap.size V w') := fun x hx V hV => pk_make V x (2 ^ n) (two_pow_digits (i := 32) (by omega) (by omega)) dT hT0 hV
 have HSB : ∀ x y, y ≤ x → x ≤ 2 ^ n → ∀ V, Lay V → Hid (Calls Tryz.prog 209 #[.string (numB x), .string (numB y)] V fun e w' => e = .returned (.tuple #[.string (numB (x - y)), .int .i64 0]) ∧ Below V.heap.size V w') := fun x y hy hx V hV => p_sub V x y (two_pow_digits (i := 32) (by omega) (by omega)) (two_pow_digits (i := 32) (by omega) (by omega)) hy hV
 have HMK' := hid HMK; have HSB' := hid HSB
 obtain ⟨cg, hcg⟩ : ∃ c, gV N D two n = c := ⟨_, rfl⟩
 obtain ⟨gl, hgl⟩ : ∃ c, gL N D two n = c := ⟨_, rfl⟩
 obtain ⟨pr, hpr⟩ : ∃ c, prL N D two n = c := ⟨_, rfl⟩
 have HPR : Hid (∀ vs v, pr (vs ++ [v]) = pr vs ++ [(zB v, shB (cg v) (2 ^ n))]) := fun vs v => by rw [← hpr, ← hcg]; exact prL_snoc N D two n vs v
 have HPL : Hid (∀ vs, (pr vs).length = vs.length) := fun vs => by rw [← hpr]; unfold prL; rw [List.length_map]
 have HP0 : Hid (pr [] = []) := by show pr [] = []; rw [← hpr]; rfl
 rw [hcg] at HSL HSA HSP HVS HOUT HGV
 rw [hpr] at HSP
 rw [hgl] at HSA
 simp only [hcg] at HLAW
 rw [hcg, hgl]
 obtain ⟨T, hT⟩ : ∃ T, 2 ^ n = T := ⟨_, rfl⟩
 obtain ⟨sT, hsT⟩ : ∃ s, numB T = s := ⟨_, rfl⟩
 rw [hT] at HPW HSL HSA HSP HGV HMK' HSB' HPR hT0 ⊢
 rw [hsT] at HPW
 simp only [hsT] at HMK'
 have HST := hid hsT; have HT0 := hid hT0
 have HLy := hid hL; have HN := hid hn
 have q0 : decide ((n : Int) < 0) = false := by simp
 have q1 : decide ((32 : Int) < (n : Int)) = false := by simp; omega
 obtain ⟨i0, hi, hz0, hz1, hz2⟩ := info_parts info_mass
 clear ha he hn hN hD hND hL hcg hgl hpr hT hsT hpn dT hT0 HMK HSB
 go_enter Tryz.func154, Tryz.ntmps154
 go_wp2_with fail
 refine HA.out.mono ?_; rintro e w1 ⟨rfl, hb1⟩
 have B1 := hid hb1; clear hb1 HA
 go_wp2_with fail
 refine (HPW _ (HLy.out.call B1.out)).out.mono ?_; rintro e w2 ⟨rfl, hb2⟩
 have B2 := hid (bnext B1.out hb2); clear hb2
 go_wp2_with fail
 refine (HLAW _ (HLy.out.call B2.out)).out.mono ?_; rintro e w3 ⟨⟨B, nn, Dm, rfl, hBs, hnn, hown, hR⟩, hb3⟩
 have B3 := hid (bnext B2.out hb3); have HR := hid hR; have HBS := hid hBs
 clear hb3 hBs hnn hR HLAW
 go_wp2_with (first | (at_range; refine wpList_range_own _ rfl _ 226 rfl 3 22 (int_keyed Tryz.underlying3) Tryz.underlying226 _ B nn Dm rfl hown ?_; intro w4 hrg0 hg0 hs0) | go_in)
 go_frame
 have B4 : Hid (Below w.heap.size w w4) := B3.out.trans ⟨hg0.os, hg0.tape, hg0.output, hg0.size, fun k hk => hg0.block k (by have := B3.out.size; omega) (by simp)⟩
 obtain ⟨r, hr⟩ : ∃ r, w3.heap.size = r := ⟨_, rfl⟩
 rw [hr] at hrg0 ⊢
 have Hr : Hid (w.heap.size ≤ r ∧ r < w4.heap.size ∧ B < w4.heap.size) := ⟨by rw [← hr]; exact B3.out.size, hrg0.lt, hrg0.owns.lt⟩
 have S0 : Hid (Seen cg n (fun v => Maps.has Dm (.int .i64 v)) []) := Seen.start fun v hv => by rw [HR.out.has]; simpa using hv
 have RG := hid hrg0
 have HB0 : Hid (w.heap.size ≤ B) := Nat.le_trans B2.out.size HBS.out
 clear hrg0 hg0 hs0 hown hr HBS
 go_loopw [11, 12] (fun s11 s12 wr => ∃ (left : Lit → Bool) (cnt : Nat) (vs : List Int), Hid (wr.ranges Tryz.prog 3 (plainElem Tryz.prog 22) B r nn Dm left cnt) ∧ Hid (Seen cg n (fun v => left (.int .i64 v)) vs) ∧ s12 = .string (numB (T - (vs.map cg).sum)) ∧ Hid (wr.ownsRow w4.heap.size 39 2 s11 vs.length (massC (pr vs))) ∧ Hid (w4.heap.size ≤ wr.heap.size) ∧ Hid (Below w.heap.size w wr)) (fun s11 s12 wr => wr.rangeLeft B r)
 case atStart => exact ⟨_, _, [], RG, S0, by simp [HST.out], hid (by rw [HP0.out]; exact ⟨rfl, .inl ⟨rfl, rfl⟩⟩), hid (Nat.le_refl _), B4⟩
 case round =>
  clear RG S0 B4
  obtain ⟨left, cnt, vs, hrg, hS, rfl, hO, hW, hBl⟩ := hrel
  obtain ⟨ar, cr, rfl⟩ := owns_ex hO.out
  go_wp2_with (first
   | (at_next; refine wpList_next_ranges_is _ rfl _ rfl 3 22 .i64 (int_keyed Tryz.underlying3) Tryz.underlying3 Tryz.underlying22 B r nn _ _ _ rfl hrg.out ?_ ?_)
   | go_in)
  ·intro _ hl0
   have hl1 : ∀ v, (fun v => left (.int .i64 v)) v = false := fun v => hl0 _
   have hrest := HSA.out vs _ hS.out hl1
   obtain ⟨hnd, hsort⟩ := HSP.out vs _ hS.out hl1 gl
   have hvl := HVS.out vs _ hS.out
   have hgT : gl ≤ T := by omega
   rw [hrest]
   have HND := hid hnd; have HSO := hid hsort; have HVL := hid hvl
   have P1 := fun V hV => HMK'.out gl hgT V hV
   obtain ⟨L, hL⟩ : ∃ L, pr vs = L := ⟨_, rfl⟩
   have hLl := HPL.out vs
   rw [hL] at hO HND HSO hLl
   rw [← hLl] at hO hvl ⊢
   have HGT := hid hgT
   have hpos : 0 < (L ++ if gl = 0 then [] else [(lateB, shB gl T)]).length := by
    rw [List.length_append]
    split
    ·rename_i h0
     have : vs ≠ [] := fun e => by subst e; simp at hrest; have := HT0.out; omega
     have := List.length_pos_iff.2 this
     simp; omega
    ·simp
   have HPOS := hid hpos
   clear hl0 hl1 hrest hnd hsort hS hrg hgT hL hLl hpos HVL
   obtain ⟨sg, hsg⟩ : ∃ s, numB gl = s := ⟨_, rfl⟩
   rw [hsg] at P1 ⊢
   have HSG := hid hsg
   clear hsg
   obtain ⟨tb0, htb⟩ : ∃ b, (sg.toList == [48]) = b := ⟨_, rfl⟩
   go_upto_if 67 with fail
   have HTB := hid htb
   clear htb
   go_cut [11] (fun s11 wx => ∃ k, k = (L ++ if gl = 0 then [] else [(lateB, shB gl T)]).length ∧ wx.ownsRow w4.heap.size 39 2 s11 k (massC (L ++ if gl = 0 then [] else [(lateB, shB gl T)])) ∧ w4.heap.size ≤ wx.heap.size ∧ Below w.heap.size w wx)
   case first =>
    by_cases h0 : gl = 0
    ·have e1 : L ++ (if gl = 0 then [] else [(lateB, shB gl T)]) = L := by rw [if_pos h0, List.append_nil]
     have q3 : (sg.toList == [48]) = true := by rw [← HSG.out, h0, numB_zero]; exact lit_zero
     obtain rfl : true = tb0 := by rw [← HTB.out]; exact q3.symm
     have HE1 := hid e1
     clear h0 e1 q3
     go_wp2_with fail
     go_meet
     exact ⟨_, rfl, by rw [HE1.out]; exact hO.out, hW.out, hBl.out⟩
    ·have e1 : L ++ (if gl = 0 then [] else [(lateB, shB gl T)]) = L ++ [(lateB, shB gl T)] := by rw [if_neg h0]
     have q3 : (sg.toList == [48]) = false := by rw [← HSG.out]; exact ne_lit (l := [48]) (by rw [← numB_zero]; exact numB_ne h0)
     obtain rfl : false = tb0 := by rw [← HTB.out]; exact q3.symm
     have HE1 := hid e1
     obtain ⟨sh, hsh⟩ : ∃ s, shB gl T = s := ⟨_, rfl⟩
     rw [hsh] at P1
     have HSH := hid hsh
     clear hsh h0 e1 q3
     go_wp2_with fail
     refine (HPW _ (HLy.out.call hBl.out)).out.mono ?_; rintro e w5 ⟨rfl, hb5⟩
     have B5 := hid (bnext hBl.out hb5); have O5 := hid (owns_call hO.out hb5); have W5 := hid (Nat.le_trans hW.out hb5.size)
     clear hb5
     go_wp2_with fail
     refine (P1 _ (HLy.out.call B5.out)).out.mono ?_; rintro e w6 ⟨rfl, hb6⟩
     have B6 := hid (bnext B5.out hb6); have O6 := hid (owns_call O5.out hb6); have W6 := hid (Nat.le_trans W5.out hb6.size)
     clear hb6
     have hw6 := W6.out
     obtain ⟨hr0, hr1, hr2⟩ := Hr.out
     go_wp2_with (at_builtin; refine wpList_append_own _ rfl _ _ 26 rfl w4.heap.size 39 i0 (.agg #[.string ⟨#[]⟩, .string ⟨#[]⟩]) 2 32 Tryz.underlying26 hi hz0 hz1 hz2 rfl (by decide) _ L.length _ rfl (O6.out.alloc _) ⟨w6.heap.size, 0, none⟩ 1 1 [.string ⟨#[108, 97, 116, 101]⟩, .string sh] rfl rfl (cell_two_new w6 (.string ⟨#[108, 97, 116, 101]⟩) (.string sh) 39) (by simp [Value.oneCell']) (by unfold maxLen; omega) (by omega) (by simp; omega) ?_; intro v' w7 hown7 hgrow7 _)
     have O7 := hid hown7
     have B7 : Hid (Below w.heap.size w w7) := B6.out.trans ((Below.refl _ _).alloc (Nat.le_refl _) _ |>.mono (by have := B6.out.size; omega) |>.trans ⟨hgrow7.os, hgrow7.tape, hgrow7.output, hgrow7.size, fun k hk => hgrow7.block k (by have := B6.out.size; simp; omega) (fun e => by have := (O6.out.lt k e.symm).1; omega)⟩)
     have W7 := hid (show w4.heap.size ≤ w7.heap.size by have := hgrow7.size; simp at this; omega)
     clear hown7 hgrow7 hw6 hr0 hr1 hr2
     go_wp2_with fail
     go_meet
     refine ⟨_, rfl, ?_, W7.out, B7.out⟩
     rw [HE1.out, List.length_append, massC_append, HSH.out]
     exact O7.out
   case rest =>
    obtain ⟨k, rfl, hOx, hWx, hBx⟩ := hcut
    have HB := hid hBx; have HW := hid hWx
    obtain ⟨d, hd⟩ : ∃ d, (L ++ if gl = 0 then [] else [(lateB, shB gl T)]) = d := ⟨_, rfl⟩
    rw [hd] at hOx HND HSO HPOS
    have hdl : d.length ≤ 1000 := by rw [← hd, List.length_append]; split <;> simp <;> omega
    rcases hOx.2 with ⟨_, h0⟩ | ⟨g, cap, cur, rfl, hgb, hg, h1, h2, h3, h4⟩
    ·have := HPOS.out; omega
    ·have hSM := s_SortM 219 g cap w4.heap.size d.toArray wc cur hgb hg (by simpa using h1) h2 h3 (by simpa [massC_length] using h4) (by simpa using hdl) (by simpa using HND.out) (enters_of Tryz.func219 (by kernel_rfl) rfl) (fun x y W => g_order x y W)
     simp only [List.size_toArray] at hSM
     have HSM := hid hSM
     clear hd hdl hSM hOx hWx hBx h1 h2 h3 h4 hg
     go_wp2_with fail
     refine HSM.out.mono ?_; rintro e w8 ⟨rfl, ho8, hb8⟩
     have B8 : Hid (Below w.heap.size w w8) := HB.out.trans (hb8.mono (by have := Hr.out.1; have := Hr.out.2.1; omega))
     have M8 := hid (MRow.of_owns ho8)
     clear ho8 hb8
     go_wp2_with fail
     go_ret2
     refine ⟨⟨_, rfl, ?_⟩, B8.out⟩
     rw [← HSO.out]
     exact M8.out
  ·intro x c w5 cnt1 hwx hwc hlx hat hrg1 hlt hg1 hs1 hen
   have hxc : cg x ≠ 0 := by
    have h1 := has_true_of_atKey hat
    rw [HR.out.has] at h1
    simpa using h1
   have hcx : c = numB (cg x) := by
    have h1 := (HR.out.look x hxc (.lit (.string []))).symm.trans (hat (.lit (.string [])))
    simp only [DataW.lit.injEq, Lit.string.injEq] at h1
    exact (ba_ext h1).symm
   subst hcx
   have hS1 := Seen.step (left' := fun v => (fun z => left z && !z.sameKey (.int .i64 x)) (.int .i64 v)) hS.out (x := x) hlx hxc (fun v => by simp only [sameKey_int])
   have hsum := HSL.out _ _ hS1
   have hsum1 : ((vs ++ [x]).map cg).sum = (vs.map cg).sum + cg x := by simp
   rw [hsum1] at hsum
   have hvl := HVS.out _ _ hS1
   rw [List.length_append, List.length_singleton] at hvl
   have hxb := HOUT.out x hxc
   have P1 := fun V hV => HMK'.out (cg x) (HGV.out x) V hV
   have P2 := fun V hV => HSB'.out (T - (vs.map cg).sum) (cg x) (by omega) (by omega) V hV
   have PI := fun V hV => hid (s_ItoaZ V x (by omega) (by omega) hV)
   have HNX : Hid (T - (vs.map cg).sum - cg x = T - ((vs ++ [x]).map cg).sum) := by show _ = _; rw [hsum1]; omega
   have hb5 : Below w.heap.size w w5 := hBl.out.trans ⟨hg1.os, hg1.tape, hg1.output, hg1.size, fun k hk => hg1.block k (by have := hBl.out.size; omega) (fun e => by have := Hr.out.1; injection e with e; omega)⟩
   have hO5 : w5.ownsRow w4.heap.size 39 2 (.slice ar vs.length cr) vs.length (massC (pr vs)) := hO.out.kept hg1 (.inr fun e => by have := (hO.out.lt r e).1; have := Hr.out.2.1; omega)
   have B5 := hid hb5; have O5 := hid hO5; have RG1 := hid hrg1; have HS1 := hid hS1; have HLT := hid hlt; have W5 := hid (show w4.heap.size ≤ w5.heap.size by have := hW.out; omega)
   have HRG := hid hrg.out
   rw [HNX.out] at P2
   obtain ⟨s1, hs1'⟩ : ∃ s, numB (T - (vs.map cg).sum) = s := ⟨_, rfl⟩
   obtain ⟨s2, hs2⟩ : ∃ s, numB (cg x) = s := ⟨_, rfl⟩
   obtain ⟨s3, hs3⟩ : ∃ s, numB (T - ((vs ++ [x]).map cg).sum) = s := ⟨_, rfl⟩
   obtain ⟨s4, hs4⟩ : ∃ s, shB (cg x) T = s := ⟨_, rfl⟩
   obtain ⟨s5, hs5⟩ : ∃ s, zB x = s := ⟨_, rfl⟩
   rw [hs1', hs2, hs3] at P2
   rw [hs2, hs4] at P1
   rw [hs5] at PI
   rw [hs2] at hen hwc
   rw [hs1', hs2]
   have HS3 := hid hs3; have HS4 := hid hs4; have HS5 := hid hs5
   have HVL := hid hvl
   clear hlx hat hrg1 hlt hg1 hs1 hxc hS1 hsum hsum1 hvl hxb hb5 hO5 hs1' hs2 hs3 hs4 hs5 hrg hS hO hW hBl
   go_wp2_with fail
   refine (HPW _ (HLy.out.call B5.out)).out.mono ?_; rintro e w6 ⟨rfl, hb6⟩
   have B6 := hid (bnext B5.out hb6); have O6 := hid (owns_call O5.out hb6); have R6 := hid (RG1.out.kept (row := none) ⟨hb6.os, hb6.tape, hb6.output, hb6.size, fun k hk _ => hb6.block k hk⟩ (by simp) (by simp)); have W6 := hid (Nat.le_trans W5.out hb6.size)
   clear hb6 hen
   go_wp2_with fail
   refine (P1 _ (HLy.out.call B6.out)).out.mono ?_; rintro e w7 ⟨rfl, hb7⟩
   have B7 := hid (bnext B6.out hb7); have O7 := hid (owns_call O6.out hb7); have R7 := hid (R6.out.kept (row := none) ⟨hb7.os, hb7.tape, hb7.output, hb7.size, fun k hk _ => hb7.block k hk⟩ (by simp) (by simp)); have W7 := hid (Nat.le_trans W6.out hb7.size)
   clear hb7
   go_wp2_with fail
   refine (PI _ (HLy.out.call B7.out)).out.mono ?_; rintro e w8 ⟨rfl, hb8⟩
   have B8 := hid (bnext B7.out hb8); have O8 := hid (owns_call O7.out hb8); have R8 := hid (R7.out.kept (row := none) ⟨hb8.os, hb8.tape, hb8.output, hb8.size, fun k hk _ => hb8.block k hk⟩ (by simp) (by simp)); have W8 := hid (Nat.le_trans W7.out hb8.size)
   clear hb8
   have hw8 := W8.out
   obtain ⟨hr0, hr1, hr2⟩ := Hr.out
   have hvl := HVL.out
   go_wp2_with (at_builtin; refine wpList_append_own _ rfl _ _ 26 rfl w4.heap.size 39 i0 (.agg #[.string ⟨#[]⟩, .string ⟨#[]⟩]) 2 32 Tryz.underlying26 hi hz0 hz1 hz2 rfl (by decide) _ vs.length _ rfl (O8.out.alloc _) ⟨w8.heap.size, 0, none⟩ 1 1 [.string s5, .string s4] rfl rfl (cell_two_new w8 (.string s5) (.string s4) 39) (by simp [Value.oneCell']) (by unfold maxLen; omega) (by omega) (by simp; omega) ?_; intro v' w9 hown9 hgrow9 _)
   have O9 := hid hown9
   have B9 : Hid (Below w.heap.size w w9) := B8.out.trans ((Below.refl _ _).alloc (Nat.le_refl _) _ |>.mono (by have := B8.out.size; omega) |>.trans ⟨hgrow9.os, hgrow9.tape, hgrow9.output, hgrow9.size, fun k hk => hgrow9.block k (by have := B8.out.size; simp; omega) (fun e => by have := (O8.out.lt k e.symm).1; omega)⟩)
   have R9 := hid ((R8.out.alloc (.cells #[.string s5, .string s4] 39)).kept hgrow9 (fun e => by have := (O8.out.lt B e.symm).1; omega) (fun e => by have := (O8.out.lt r e.symm).1; omega))
   have W9 := hid (show w4.heap.size ≤ w9.heap.size by have := hgrow9.size; simp at this; omega)
   clear hown9 hgrow9 hw8 hr0 hr1 hr2 hvl
   go_wp2_with fail
   refine (P2 _ (HLy.out.call B9.out)).out.mono ?_; rintro e w10 ⟨rfl, hb10⟩
   have B10 := hid (bnext B9.out hb10); have O10 := hid (owns_call O9.out hb10); have R10 := hid (R9.out.kept (row := none) ⟨hb10.os, hb10.tape, hb10.output, hb10.size, fun k hk _ => hb10.block k hk⟩ (by simp) (by simp)); have W10 := hid (Nat.le_trans W9.out hb10.size)
   clear hb10
   go_wp2_with fail
   go_roundw
   case rel =>
    refine ⟨_, cnt1, vs ++ [x], R10, HS1, by rw [HS3.out], hid ?_, W10, B10⟩
    rw [List.length_append, List.length_singleton, HPR.out, massC_append, HS4.out, HS5.out]
    exact O10.out
   case measure => rw [R10.out.left_eq, HRG.out.left_eq]; exact HLT.out
end Go.Proofs.YtlmnpocifldpmaaGreatDoor
namespace Go.Proofs.YtlmnpocifldpmaaGreatDoor
open Go.RowKit
open Go.Lib (decDigits nDigits)
def glR (a : ByteArray) (n : Int) (two : Bool) : List (ByteArray × ByteArray) := if glE a n 32 = 0 then sortM (glP (gV (bN (cW a)) (bN (qD a)) two n.toNat) (2 ^ n.toNat) n.toNat (gL (bN (cW a)) (bN (qD a)) two n.toNat)) else []
theorem g_listed (w : World) (a : ByteArray) (n : Int) (two : Bool) (ha : a.size ≤ 100000) (hL : Lay w) :
 Calls Tryz.prog 154 #[.string a, .int .i64 n, .bool two] w fun e w' => (∃ v, e = .returned (.tuple #[v, .int .i64 (glE a n 32)]) ∧ MRow w' v (glR a n two)) ∧ Below w.heap.size w w' := by
 by_cases he : gPE a = 0
 ·by_cases hn : n < 0 ∨ 32 < n
  ·have e1 : glE a n 32 = 2 := by unfold glE; rw [if_neg (by rw [he]; simp), if_pos hn]
   have e2 : glR a n two = [] := by unfold glR; rw [if_neg (by rw [e1]; decide)]
   rw [e1, e2]
   have HA := hid (g_ratio w a ha hL)
   rw [if_pos he, if_pos he, he] at HA
   obtain ⟨b1, k1⟩ : ∃ b, decide (n < 0) = b := ⟨_, rfl⟩
   obtain ⟨b2, k2⟩ : ∃ b, decide (32 < n) = b := ⟨_, rfl⟩
   have k3 : (b1 || b2) = true := by rw [← k1, ← k2]; simpa using hn
   clear ha hL he hn e1 e2
   cases b1
   ·obtain rfl : b2 = true := by simpa using k3
    clear k3
    go_enter Tryz.func154, Tryz.ntmps154
    go_wp2_with fail
    refine HA.out.mono ?_; rintro e w1 ⟨rfl, hb1⟩
    have B1 := hid hb1; clear hb1 HA
    go_wp2_with fail
    go_ret2
    exact ⟨⟨_, rfl, MRow.nil _⟩, B1.out⟩
   ·clear k2 k3
    go_enter Tryz.func154, Tryz.ntmps154
    go_wp2_with fail
    refine HA.out.mono ?_; rintro e w1 ⟨rfl, hb1⟩
    have B1 := hid hb1; clear hb1 HA
    go_wp2_with fail
    go_ret2
    exact ⟨⟨_, rfl, MRow.nil _⟩, B1.out⟩
  ·obtain ⟨m, rfl⟩ : ∃ m : Nat, n = (m : Nat) := ⟨n.toNat, by omega⟩
   have e1 : glE a (m : Nat) 32 = 0 := by unfold glE; rw [if_neg (by rw [he]; simp), if_neg hn]
   have hND := (gPE_ok he).2
   have := g_listed_ok (H := Unit) w a m _ _ two ha he (by omega) rfl rfl hND hL
   unfold glR
   rw [if_pos e1, e1, Int.toNat_natCast]
   exact this
 ·have e1 : glE a n 32 = gPE a := by unfold glE; rw [if_pos he]
  have e2 : glR a n two = [] := by unfold glR; rw [if_neg (by rw [e1]; exact he)]
  rw [e1, e2]
  have HA := hid (g_ratio w a ha hL)
  rw [if_neg he, if_neg he] at HA
  obtain ⟨x, hx⟩ : ∃ x, gPE a = x := ⟨_, rfl⟩
  rw [hx] at HA he ⊢
  have x0 : (x != 0) = true := by simpa using he
  clear ha hL he hx e1 e2
  go_enter Tryz.func154, Tryz.ntmps154
  go_wp2_with fail
  refine HA.out.mono ?_; rintro e w1 ⟨rfl, hb1⟩
  have B1 := hid hb1; clear hb1 HA
  go_wp2_with fail
  go_ret2
  exact ⟨⟨_, rfl, MRow.nil _⟩, B1.out⟩
theorem g_TwoLaw (w : World) (a : ByteArray) (n : Int) (ha : a.size ≤ 100000) (hL : Lay w) :
 Calls Tryz.prog 93 #[.string a, .int .i64 n] w fun e w' => (∃ v, e = .returned (.tuple #[v, .int .i64 (glE a n 32)]) ∧ MRow w' v (glR a n true)) ∧ Below w.heap.size w w' := by
 have H := hid (g_listed w a n true ha hL)
 obtain ⟨o, ho⟩ : ∃ o, glR a n true = o := ⟨_, rfl⟩
 obtain ⟨x, hx⟩ : ∃ x, glE a n 32 = x := ⟨_, rfl⟩
 rw [ho, hx] at H ⊢
 clear ha hL ho hx
 go_enter Tryz.func93, Tryz.ntmps93
 go_wp2_with fail
 refine H.out.mono ?_; rintro e w1 ⟨⟨v, rfl, hv⟩, hb1⟩
 have B1 := hid hb1; have V1 := hid hv; clear hb1 hv
 go_wp2_with fail
 go_ret2
 exact ⟨⟨_, rfl, V1.out⟩, B1.out⟩
noncomputable def kz (s : ByteArray) : Option Int := @dite _ (∃ v : Int, s = zB v) (Classical.propDecidable _) (fun h => some (Classical.choose h)) (fun _ => none)
theorem kz_zB (v : Int) : kz (zB v) = some v := by
 unfold kz
 have h : ∃ x : Int, zB v = zB x := ⟨v, rfl⟩
 rw [dif_pos h]
 exact congrArg some (zB_inj (Classical.choose_spec h)).symm
theorem kz_late : kz lateB = none := by
 unfold kz
 rw [dif_neg]
 rintro ⟨v, h⟩
 exact zB_late v (congrArg (fun b : ByteArray => b.data.toList) h.symm)
noncomputable def chS (d : List (ByteArray × ByteArray)) : List Int := d.filterMap fun p => kz p.1
theorem chS_take {d : List (ByteArray × ByteArray)} {i : Nat} {p : ByteArray × ByteArray} (h : d[i]? = some p) : chS (d.take (i + 1)) = chS (d.take i) ++ (kz p.1).toList := by
 unfold chS
 rw [List.take_add_one, h, Option.toList_some, List.filterMap_append]
 congr 1
theorem chS_late {d : List (ByteArray × ByteArray)} {i : Nat} {p : ByteArray × ByteArray} (h : d[i]? = some p) (hp : kz p.1 = none) : chS (d.take (i + 1)) = chS (d.take i) := by
 rw [chS_take h, hp, Option.toList_none, List.append_nil]
theorem chS_num {d : List (ByteArray × ByteArray)} {i : Nat} {p : ByteArray × ByteArray} {v : Int} (h : d[i]? = some p) (hp : kz p.1 = some v) : chS (d.take (i + 1)) = chS (d.take i) ++ [v] := by
 rw [chS_take h, hp]; rfl
theorem chS_length (d : List (ByteArray × ByteArray)) : (chS d).length ≤ d.length := List.length_filterMap_le _ _
theorem chS_glM (g : Int → Nat) (t n : Nat) : (glM g t n).filterMap (fun p => kz p.1) = chA g n := by
 unfold glM chA chV
 rw [List.filterMap_filterMap, List.filter_map, ← List.filterMap_eq_map, ← List.filterMap_eq_filter, List.filterMap_filterMap]
 congr 1
 funext j
 by_cases h : g ((j : Int) - n) = 0
 ·simp [h, Option.guard]
 ·simp [h, Option.guard, kz_zB]
theorem chS_glP (g : Int → Nat) (t n r : Nat) : (chS (sortM (glP g t n r))).Perm (chA g n) := by
 have h : (sortM (glP g t n r)).Perm (glP g t n r) := List.mergeSort_perm _ _
 refine (h.filterMap fun p => kz p.1).trans ?_
 unfold glP
 rw [List.filterMap_append, chS_glM]
 by_cases hr : r = 0
 ·rw [if_pos hr]; simp
 ·rw [if_neg hr]
  simp [kz_late]
theorem runs_glP (g : Int → Nat) (t n r : Nat) : Runs g n (chS (sortM (glP g t n r))) := fun f hf => by
 rw [sV_perm (chS_glP g t n r)]
 exact smV_all hf n
theorem chS_mass {g : Int → Nat} {n r : Nat} {p : ByteArray × ByteArray} (h : p ∈ sortM (glP g (2 ^ n) n r)) : (∃ v : Int, -(n : Int) ≤ v ∧ v ≤ n ∧ p.1 = zB v ∧ kz p.1 = some v ∧ p.2 = dyB (g v) n) ∨ (p.1 = lateB ∧ kz p.1 = none) := by
 rw [sortM_mem, glP_mem] at h
 rcases h with ⟨v, h1, h2, -, rfl⟩ | ⟨-, rfl⟩
 ·exact .inl ⟨v, h1, h2, rfl, kz_zB v, rfl⟩
 ·exact .inr ⟨rfl, kz_late⟩
open Go.Shelf
theorem dec_natS (n : Nat) : Lib.decNat (decDigits n) = some n := by
 have hd := allDig_dec n
 have hne : decDigits n ≠ [] := by
  intro e
  have := Lib.decDigits_length n
  rw [e] at this
  have := nd_pos n
  simp at *
  omega
 unfold Lib.decNat
 rw [if_neg (by simpa using hne), decFrom_dv hd, dv_dec, Nat.mul_zero, Nat.zero_add]
theorem atoi_itoa (v : Int) : Lib.atoi (Lib.itoa v) = some v := by
 unfold Lib.itoa
 split
 ·rename_i h
  unfold Lib.atoi
  show (if ((45 : UInt8) == 45) = true then Option.map (fun (m : Nat) => -(m : Int)) (Lib.decNat (decDigits v.natAbs)) else _) = _
  rw [if_pos (by decide), dec_natS]
  show some (-(v.natAbs : Int)) = some v
  congr 1; omega
 ·rename_i h
  rw [atoi_dec]
  congr 1; omega
theorem b_AtoiZ (w : World) (v : Int) (h1 : -1000 ≤ v) (h2 : v ≤ 1000) :
 Calls Tryz.prog 94 #[.string (zB v)] w fun e w' => e = .returned (.tuple #[.int .i64 v, .nilIface]) ∧ Below w.heap.size w w' := by
 have hs : (zB v).size ≤ 18 := by
  rw [← list_size, zB_list]
  unfold Lib.itoa
  split
  ·have hd := nDigits_le (n := v.natAbs) (k := 4) (by omega) (by omega)
   rw [List.length_cons, Lib.decDigits_length]; omega
  ·have hd := nDigits_le (n := v.toNat) (k := 4) (by omega) (by omega)
   rw [Lib.decDigits_length]; omega
 refine (Tryz.strconv_Atoi (zB v) v hs (by rw [zB_list]; exact atoi_itoa v) w).mono ?_
 rintro e w' ⟨rfl, t, rfl⟩
 exact ⟨rfl, Go.Joins.below_bytesWorld w.heap.size w 5 t (Nat.le_refl _)⟩
end Go.Proofs.YtlmnpocifldpmaaGreatDoor
namespace Go.Proofs.YtlmnpocifldpmaaGreatDoor
open Go.RowKit
open Go.Shelf
theorem own_setK {W : World} {base : Nat} {e : TypeId} {k g n cap : Nat} {xs : List Value} (h : W.ownsRow base e k (.slice (some ⟨g, 0, none⟩) n cap) n xs) (i : Nat) (x : Value) : (W.setCell ⟨g, i, none⟩ x).ownsRow base e k (.slice (some ⟨g, 0, none⟩) n cap) n (xs.set i x) := by
 rcases h.2 with ⟨e1, _⟩ | ⟨g', cap', cur, e1, hb, hg, h1, h2, h3, h4⟩
 ·simp at e1
 ·simp at e1
  obtain ⟨rfl, rfl⟩ := e1
  refine ⟨by rw [List.length_set]; exact h.1, .inr ⟨g, cap, cur.setIfInBounds i x, rfl, hb, Blk.set hg i x, h1, h2, by simpa using h3, ?_⟩⟩
  rw [Array.toList_setIfInBounds, List.take_set, h4]
theorem own_slotK {W : World} {base : Nat} {e : TypeId} {k g n cap : Nat} {xs : List Value} (h : W.ownsRow base e k (.slice (some ⟨g, 0, none⟩) n cap) n xs) : base ≤ g ∧ g < W.heap.size ∧ (∀ i, W.frozen? ⟨g, i, none⟩ = false) ∧ (∀ (i : Nat) (x : Value), xs[i]? = some x → W.cell? ⟨g, i, none⟩ = some x) ∧ cap ≤ 9223372036854775807 ∧ n ≤ cap := by
 have hh := h
 rcases h.2 with ⟨e1, _⟩ | ⟨g', cap', cur, e1, hb, hg, h1, h2, h3, h4⟩
 ·simp at e1
 ·simp at e1
  obtain ⟨rfl, rfl⟩ := e1
  refine ⟨hb, (Array.getElem?_eq_some_iff.1 hg).1, fun i => Blk.free hg i, fun i x hx => ?_, by unfold maxLen at h2; omega, h1⟩
  have := hh.cells rfl i x hx
  rw [Addr.add_lit, Nat.zero_add] at this
  exact this
theorem own_cutK {W : World} {base : Nat} {e : TypeId} {k g n m cap : Nat} {xs : List Value} (h : W.ownsRow base e k (.slice (some ⟨g, 0, none⟩) n cap) n xs) (hm : m ≤ n) : W.ownsRow base e k (.slice (some ⟨g, 0, none⟩) m cap) m (xs.take (m * k)) := by
 have hl := h.1
 rcases h.2 with ⟨e1, _⟩ | ⟨g', cap', cur, e1, hb, hg, h1, h2, h3, h4⟩
 ·simp at e1
 ·simp at e1
  obtain ⟨rfl, rfl⟩ := e1
  have hk : m * k ≤ n * k := Nat.mul_le_mul_right k hm
  refine ⟨by rw [List.length_take, hl]; omega, .inr ⟨g, cap, cur, rfl, hb, hg, by omega, h2, h3, ?_⟩⟩
  rw [← h4, List.take_take, Nat.min_eq_left hk]
theorem own_setCells {base : Nat} {e : TypeId} {k g n cap : Nat} : ∀ (vs : List Value) (o : Nat) {W : World} {xs : List Value}, W.ownsRow base e k (.slice (some ⟨g, 0, none⟩) n cap) n xs → ∃ ys, (W.setCells g o vs).ownsRow base e k (.slice (some ⟨g, 0, none⟩) n cap) n ys ∧ ys.take o = xs.take o
 | [], o, W, xs, h => ⟨xs, h, rfl⟩
 | v :: r, o, W, xs, h => by
  obtain ⟨ys, h1, h2⟩ := own_setCells r (o + 1) (own_setK h o v)
  refine ⟨ys, h1, ?_⟩
  have h3 := congrArg (List.take o) h2
  rw [List.take_take, List.take_take, Nat.min_eq_left (by omega)] at h3
  rw [h3, List.take_set, List.set_eq_of_length_le (by rw [List.length_take]; omega)]
theorem below_setCells {base g : Nat} (hb : base ≤ g) : ∀ (vs : List Value) (o : Nat) {w W : World}, Below base w W → Below base w (W.setCells g o vs)
 | [], _, _, _, h => h
 | v :: r, o, w, W, h => below_setCells hb r (o + 1) (h.setCell hb v)
theorem run_clear2 (w : World) (t e ty : TypeId) (z : Value) (x y : Value) (ht : Tryz.prog.underlying t = some (.slice e)) (hv : ∀ w, (zeroValue e).run Tryz.prog w = .ok z w) (hz : z.cells = #[x, y]) (h1 : x.oneCell' = true) (h2 : y.oneCell' = true) (b o n c : Nat) (hn : 0 < n)
 (hc : ∀ j, j < n * 2 → (w.cell? ⟨b, o + j, none⟩).isSome = true) (hf : ∀ j, j < n * 2 → w.frozen? ⟨b, o + j, none⟩ = false) :
 ∃ vs, (Builtin.clear_ #[t] ty #[.slice (some ⟨b, o, none⟩) n c]).run Tryz.prog w = .ok (.tuple #[]) (w.setCells b o vs) := by
 obtain ⟨vs, hvs⟩ : ∃ vs, (Builtin.zeroCells z.cells n).toList = vs := ⟨_, rfl⟩
 have hlen : vs.length = n * 2 := by rw [← hvs, hz]; simp [Builtin.zeroCells]
 have hone : ∀ v ∈ vs, v.oneCell' = true := by
  intro v hv'
  rw [← hvs, hz] at hv'
  simp [Builtin.zeroCells] at hv'
  obtain ⟨i, hi, rfl⟩ := hv'
  rcases Nat.mod_two_eq_zero_or_one i with h | h <;> simp [h, h1, h2]
 have hst := run_storeCells_cells (P := Tryz.prog) b o vs 0 w (by rw [hlen]; simpa using hc) (by rw [hlen]; simpa using hf) hone
 simp only [Nat.add_zero] at hst
 refine ⟨vs, ?_⟩
 obtain ⟨m, rfl⟩ : ∃ m, n = m + 1 := ⟨n - 1, by omega⟩
 simp [Builtin.clear_, run_underlying ht, hv, hvs, hst]
theorem zero_mass (w : World) : (zeroValue 39).run Tryz.prog w = .ok (.agg #[.string ⟨#[]⟩, .string ⟨#[]⟩]) w := by kernel_rfl
def ixM (p : ByteArray × ByteArray → Bool) (l : List (ByteArray × ByteArray)) : Int := if l.any p = true then (l.findIdx p : Nat) else -1
theorem s_IndexFuncM (w : World) (v : Value) (l : List (ByteArray × ByteArray)) (F : Nat) (p : ByteArray × ByteArray → Bool) (hv : MRow w v l) (hen : ∀ args w, (callFunc F args).run Tryz.prog w = .ok (.enter F args) w)
 (hF : ∀ W (x : ByteArray × ByteArray), Calls Tryz.prog F #[.agg #[.string x.1, .string x.2]] W fun e w' => e = .returned (.bool (p x)) ∧ Below W.heap.size W w') :
 Calls Tryz.prog 99 #[v, .func (.func F) #[] #[]] w fun e w' => e = .returned (.int .i64 (ixM p l)) ∧ Below w.heap.size w w' := by
 obtain ⟨a, c, rfl, q1, q2, q3⟩ := hv.ex
 obtain ⟨n, hn⟩ : ∃ n, l.length = n := ⟨_, rfl⟩
 rw [hn] at q1 ⊢
 have HN := hid hn; have Q3 := hid q3; have HF := hid hF
 clear hv q3 hn hF
 go_enter Tryz.func99, Tryz.ntmps99
 go_wp2_with fail
 go_loopw [8] (fun ii wr => ∃ i : Nat, ii = .int .i64 i ∧ i ≤ n ∧ Hid (∀ j x, j < i → l[j]? = some x → p x = false) ∧ Hid (Below w.heap.size w wr)) (fun ii wr => n - (intOf ii).toNat)
 case atStart => exact ⟨0, rfl, Nat.zero_le _, fun j x hj => absurd hj (by omega), Below.refl _ _⟩
 case round =>
  obtain ⟨i, rfl, hi, hI, hB⟩ := hrel
  by_cases hlt : i < n
  ·obtain ⟨x, hx⟩ : ∃ x, l[i]? = some x := ⟨_, List.getElem?_eq_getElem (by rw [HN.out]; exact hlt)⟩
   obtain ⟨g, o, rfl, hg, m1, m2⟩ := Q3.out i x hx
   rw [Nat.mul_comm 2] at m1 m2
   have r1 := (hB.out.cell (p := ⟨g, o + i * 2, none⟩) hg).trans m1
   have r2 := (hB.out.cell (p := ⟨g, o + i * 2 + 1, none⟩) hg).trans m2
   have HX := hid hx
   have b1 : (0 : Int) ≤ (i : Int) := by omega
   have b2 : (i : Int) < (n : Int) := by omega
   have wi : IntKind.i64.wrap ((i : Int) + 1) = ((i + 1 : Nat) : Int) := by rw [IntWalk.i64_in _ ⟨by omega, by omega⟩]; omega
   obtain ⟨z, hz⟩ : ∃ z, p x = z := ⟨_, rfl⟩
   have C := fun W => hid (hz ▸ HF.out W x)
   have HZ := hid hz
   clear hx hz m1 m2 hg
   go_wp2_with fail
   refine (C _).out.mono ?_; rintro e w1 ⟨rfl, hb1⟩
   have y1 := hid (bnext hB.out hb1)
   clear hb1
   cases z
   ·go_wp2_with fail
    go_roundw
    case rel => exact ⟨i + 1, by go_num, by omega, fun j y hj hy => by
     rcases Nat.lt_or_ge j i with h | h
     ·exact hI.out j y h hy
     ·obtain rfl : j = i := by omega
      rw [HX.out] at hy; cases hy; exact HZ.out, y1⟩
    case measure => simp [intOf] <;> omega
   ·have hA : l.any p = true := List.any_eq_true.2 ⟨x, List.mem_of_getElem? HX.out, HZ.out⟩
    have hfi : l.findIdx p = i := by
     have hil : i < l.length := by rw [HN.out]; exact hlt
     rw [List.findIdx_eq hil]
     refine ⟨?_, fun j hj => ?_⟩
     ·have := HX.out; rw [List.getElem?_eq_getElem hil] at this; rw [Option.some.inj this]; exact HZ.out
     ·exact hI.out j _ hj (List.getElem?_eq_getElem (Nat.lt_trans hj hil))
    have HE := hid (show ixM p l = (i : Int) from by rw [ixM, if_pos hA, hfi])
    clear hA hfi
    go_wp2_with fail
    go_ret
    exact ⟨by rw [HE.out]; rfl, y1.out⟩
  ·obtain rfl : i = n := by omega
   have hA : ¬ l.any p = true := fun h => by
    obtain ⟨x, hx, hp⟩ := List.any_eq_true.1 h
    obtain ⟨j, hj⟩ := List.getElem?_of_mem hx
    have := hI.out j x (by rw [← HN.out]; exact (List.getElem?_eq_some_iff.1 hj).1) hj
    rw [this] at hp; cases hp
   have HE := hid (show ixM p l = -1 from by rw [ixM, if_neg hA])
   have q0 : decide ((i : Int) < (i : Int)) = false := by simp
   clear hA hlt
   go_wp2_with fail
   go_ret
   exact ⟨by rw [HE.out]; rfl, hB.out⟩
structure DelI (del : ByteArray × ByteArray → Bool) (L D : List (ByteArray × ByteArray)) (i j : Nat) : Prop where
 len : D.length = L.length
 lt : i < j
 le : j ≤ L.length
 front : D.take i = (L.take j).filter fun x => !del x
 back : D.drop j = L.drop j
theorem DelI.start {del : ByteArray × ByteArray → Bool} {L : List (ByteArray × ByteArray)} (h : L.any del = true) : DelI del L L (L.findIdx del) (L.findIdx del + 1) := by
 have hk : L.findIdx del < L.length := List.findIdx_lt_length.2 (List.any_eq_true.1 h)
 have hd : del L[L.findIdx del] = true := List.findIdx_getElem
 refine ⟨rfl, Nat.lt_succ_self _, hk, ?_, rfl⟩
 rw [List.take_add_one, List.getElem?_eq_getElem hk, List.filter_append]
 have e1 : List.filter (fun x => !del x) (some L[L.findIdx del]).toList = [] := by simp [hd]
 rw [e1, List.append_nil]
 symm
 rw [List.filter_eq_self]
 intro x hx
 obtain ⟨j, hj, rfl⟩ := List.getElem_of_mem hx
 rw [List.length_take] at hj
 rw [List.getElem_take]
 have := List.not_of_lt_findIdx (p := del) (xs := L) (i := j) (by omega)
 simpa using this
theorem DelI.at_ {del : ByteArray × ByteArray → Bool} {L D : List (ByteArray × ByteArray)} {i j : Nat} (h : DelI del L D i j) {x : ByteArray × ByteArray} (hx : L[j]? = some x) : D[j]? = some x := by
 have := congrArg (fun l => l[0]?) h.back
 simp only [List.getElem?_drop, Nat.add_zero] at this
 rw [this, hx]
theorem DelI.keep {del : ByteArray × ByteArray → Bool} {L D : List (ByteArray × ByteArray)} {i j : Nat} (h : DelI del L D i j) {x : ByteArray × ByteArray} (hx : L[j]? = some x) (hd : del x = false) : DelI del L (D.set i x) (i + 1) (j + 1) := by
 have hj := (List.getElem?_eq_some_iff.1 hx).1
 have hlt := h.lt
 refine ⟨by rw [List.length_set]; exact h.len, by omega, hj, ?_, ?_⟩
 ·have e1 : L.take (j + 1) = L.take j ++ [x] := by rw [List.take_add_one, hx]; rfl
  have e2 : (D.set i x).take (i + 1) = D.take i ++ [x] := by
   rw [List.take_add_one, List.getElem?_set_self (by rw [h.len]; omega), List.take_set, List.set_eq_of_length_le (by rw [List.length_take]; omega)]; rfl
  rw [e1, e2, List.filter_append, ← h.front]
  simp [hd]
 ·rw [List.drop_set_of_lt (by omega), ← List.drop_drop, h.back, List.drop_drop]
theorem DelI.skip {del : ByteArray × ByteArray → Bool} {L D : List (ByteArray × ByteArray)} {i j : Nat} (h : DelI del L D i j) {x : ByteArray × ByteArray} (hx : L[j]? = some x) (hd : del x = true) : DelI del L D i (j + 1) := by
 have hj := (List.getElem?_eq_some_iff.1 hx).1
 have hlt := h.lt
 refine ⟨h.len, by omega, hj, ?_, ?_⟩
 ·rw [List.take_add_one, hx, List.filter_append, ← h.front]
  simp [hd]
 ·rw [← List.drop_drop, h.back, List.drop_drop]
theorem massC_set {D : List (ByteArray × ByteArray)} {i : Nat} (x : ByteArray × ByteArray) (hi : i < D.length) : ((massC D).set (i * 2) (.string x.1)).set (i * 2 + 1) (.string x.2) = massC (D.set i x) := by
 apply List.ext_getElem?
 intro k
 rw [massC_at, List.getElem?_set, List.getElem?_set]
 simp only [List.length_set, massC_length]
 by_cases h1 : i * 2 + 1 = k
 ·subst h1
  rw [if_pos rfl, if_pos (by omega), show (i * 2 + 1) / 2 = i by omega, List.getElem?_set_self hi, Option.map_some, if_neg (by omega)]
 ·rw [if_neg h1]
  by_cases h2 : i * 2 = k
  ·subst h2
   rw [if_pos rfl, if_pos (by omega), show i * 2 / 2 = i by omega, List.getElem?_set_self hi, Option.map_some, if_pos (by omega)]
  ·rw [if_neg h2, massC_at, List.getElem?_set_ne (by omega)]
theorem massC_take (D : List (ByteArray × ByteArray)) (i : Nat) : (massC D).take (i * 2) = massC (D.take i) := by
 apply List.ext_getElem?
 intro k
 rw [massC_at]
 by_cases h : k < i * 2
 ·rw [List.getElem?_take_of_lt h, massC_at, List.getElem?_take_of_lt (by omega)]
 ·rw [List.getElem?_take_eq_none (by omega), List.getElem?_take_eq_none (by omega)]; rfl
theorem s_DelM (w : World) (F : Nat) (del : ByteArray × ByteArray → Bool) (g cap base n : Nat) (L : List (ByteArray × ByteArray)) (hO : w.ownsRow base 39 2 (.slice (some ⟨g, 0, none⟩) n cap) n (massC L)) (hl : L.length = n) (hn : n ≤ 100000) (hb : base ≤ w.heap.size)
 (hen : ∀ args w, (callFunc F args).run Tryz.prog w = .ok (.enter F args) w)
 (hF : ∀ W (x : ByteArray × ByteArray), Calls Tryz.prog F #[.agg #[.string x.1, .string x.2]] W fun e w' => e = .returned (.bool (del x)) ∧ Below W.heap.size W w') :
 Calls Tryz.prog 39 #[.slice (some ⟨g, 0, none⟩) n cap, .func (.func F) #[] #[]] w fun e w' => (∃ m, m = (L.filter fun x => !del x).length ∧ e = .returned (.slice (some ⟨g, 0, none⟩) m cap) ∧ w'.ownsRow base 39 2 (.slice (some ⟨g, 0, none⟩) m cap) m (massC (L.filter fun x => !del x))) ∧ Below base w w' := by
 have PI := hid (s_IndexFuncM w _ L F del (MRow.of_owns hO) hen hF)
 have HO := hid hO
 obtain ⟨o1, o2, o3, o4, o5, o6⟩ := own_slotK hO
 have HF := hid hF; have HL := hid hl; have HB := hid hb; have HG := hid o1
 by_cases hany : L.any del = true
 ·have st := hid (DelI.start hany)
  have ei : ixM del L = (L.findIdx del : Nat) := by rw [ixM, if_pos hany]
  rw [ei] at PI
  obtain ⟨k, hk⟩ : ∃ k, L.findIdx del = k := ⟨_, rfl⟩
  rw [hk] at PI st
  have hkn : k < n := by have := st.out.le; omega
  have q0 : ((k : Int) == -1) = false := by rw [beq_eq_false_iff_ne]; omega
  have wk : IntKind.i64.wrap ((k : Int) + 1) = ((k + 1 : Nat) : Int) := by rw [IntWalk.i64_in _ ⟨by omega, by omega⟩]; omega
  clear hO hF hl hb hany ei hk o1 o2 o3 o4
  go_enter Tryz.func39, Tryz.ntmps39
  go_wp2_with fail
  refine PI.out.mono ?_; rintro e w1 ⟨rfl, hb1⟩
  have y1 := hid (hb1.mono HB.out)
  have O1 := hid (owns_call HO.out hb1)
  clear hb1
  go_wp2_with fail
  go_loopw [5, 6, 7] (fun s5 s6 s7 wr => ∃ (i j : Nat) (D : List (ByteArray × ByteArray)), s5 = .int .i64 (i : Nat) ∧ s6 = .int .i64 (j : Nat) ∧ j ≤ n ∧ i < j ∧ Hid (DelI del L D i j) ∧ Hid (wr.ownsRow base 39 2 (.slice (some ⟨g, 0, none⟩) n cap) n (massC D)) ∧ Hid (Below base w wr)) (fun s5 s6 s7 wr => n - (intOf s6).toNat)
  case atStart => exact ⟨k, k + 1, L, rfl, by go_num, by omega, by omega, st, O1, y1⟩
  case round =>
   obtain ⟨i, j, D, rfl, rfl, hj, hij, hI, hO, hBl⟩ := hrel
   obtain ⟨o1, o2, o3, o4, -, -⟩ := own_slotK hO.out
   have hDl := hI.out.len
   by_cases hlt : j < n
   ·obtain ⟨x, hx⟩ : ∃ x, L[j]? = some x := ⟨_, List.getElem?_eq_getElem (by rw [HL.out]; exact hlt)⟩
    obtain ⟨m1, m2⟩ := massC_get (hI.out.at_ hx)
    obtain ⟨y, hy⟩ : ∃ y, D[i]? = some y := ⟨_, List.getElem?_eq_getElem (by rw [hDl, HL.out]; omega)⟩
    obtain ⟨m3, m4⟩ := massC_get hy
    have r1 := o4 _ _ m1
    have r2 := o4 _ _ m2
    have r3 := o4 _ _ m3
    have r4 := o4 _ _ m4
    rw [Nat.mul_comm 2] at r1 r2 r3 r4
    have f1 := o3 (i * 2)
    have f2 := o3 (i * 2 + 1)
    have b1 : (0 : Int) ≤ (j : Int) := by omega
    have b2 : (j : Int) < (n : Int) := by omega
    have b3 : (0 : Int) ≤ (i : Int) := by omega
    have b4 : (i : Int) < (n : Int) := by omega
    have wj : IntKind.i64.wrap ((j : Int) + 1) = ((j + 1 : Nat) : Int) := by rw [IntWalk.i64_in _ ⟨by omega, by omega⟩]; omega
    have wi : IntKind.i64.wrap ((i : Int) + 1) = ((i + 1 : Nat) : Int) := by rw [IntWalk.i64_in _ ⟨by omega, by omega⟩]; omega
    obtain ⟨z, hz⟩ : ∃ z, del x = z := ⟨_, rfl⟩
    have C := fun W => hid (hz ▸ HF.out W x)
    have HX := hid hx; have HZ := hid hz
    have hset := hid (massC_set (D := D) (i := i) x (by rw [hDl, HL.out]; omega))
    have X1 := hid (Blk.new wr #[.string x.1, .string x.2] 39)
    have A1 := hid ((Below.refl wr.heap.size wr).alloc (Nat.le_refl _) (.cells #[.string x.1, .string x.2] 39))
    have O2 := hid (owns_call hO.out A1.out)
    have GL : Hid (g < wr.heap.size) := o2
    clear hx hz m1 m2 m3 m4 o4 hy
    obtain ⟨xk, xv⟩ := x
    dsimp only at *
    go_wp2_with fail
    refine (C _).out.mono ?_; rintro e w2 ⟨rfl, hb2⟩
    have hb2' := bnext A1.out hb2
    have X2 := hid (X1.out.call hb2)
    have O3 := hid (owns_call O2.out hb2)
    have B2 := hid (hBl.out.trans (hb2'.mono (by omega)))
    have z0 := X2.out.cell 0
    have z1 := X2.out.cell 1
    simp at z0 z1
    have r3 := (hb2'.cell (p := ⟨g, i * 2, none⟩) GL.out).trans r3
    have r4 := (hb2'.cell (p := ⟨g, i * 2 + 1, none⟩) GL.out).trans r4
    obtain ⟨-, -, g3, -, -, -⟩ := own_slotK O3.out
    have f1 := g3 (i * 2)
    have f2 := g3 (i * 2 + 1)
    clear hb2 hb2' r1 r2
    cases z
    ·go_wp2_with fail
     go_roundw
     case rel =>
      refine ⟨i + 1, j + 1, D.set i (xk, xv), by go_num, by go_num, by omega, by omega, hid (hI.out.keep HX.out HZ.out), ?_, hid ((B2.out.setCell o1 _).setCell o1 _)⟩
      have h5 := own_setK (own_setK O3.out (i * 2) (.string xk)) (i * 2 + 1) (.string xv)
      rw [hset.out] at h5
      exact h5
     case measure => simp [intOf] <;> omega
    ·clear f1 f2 r3 r4
     go_wp2_with fail
     go_roundw
     case rel => exact ⟨i, j + 1, D, rfl, by go_num, by omega, by omega, hid (hI.out.skip HX.out HZ.out), O3, B2⟩
     case measure => simp [intOf] <;> omega
   ·obtain rfl : j = n := by omega
    have q1 : decide ((j : Int) < (j : Int)) = false := by simp
    have b1 : (0 : Int) ≤ (i : Int) := by omega
    have b2 : (i : Int) ≤ (j : Int) := by omega
    have b3 : (j : Int) ≤ (cap : Int) := by omega
    have b4 : (i : Int) ≤ (cap : Int) := by omega
    obtain ⟨vs, hcl⟩ := run_clear2 wr 26 39 0 (.agg #[.string ⟨#[]⟩, .string ⟨#[]⟩]) (.string ⟨#[]⟩) (.string ⟨#[]⟩) Tryz.underlying26 zero_mass rfl rfl rfl g (i * 2) (j - i) (cap - i) (by omega)
     (fun k hk => by
      obtain ⟨v, hv⟩ : ∃ v, (massC D)[i * 2 + k]? = some v := ⟨_, List.getElem?_eq_getElem (by rw [massC_length, hDl, HL.out]; omega)⟩
      rw [o4 _ _ hv]; rfl)
     (fun k hk => o3 _)
    obtain ⟨ys, w3, w4⟩ := own_setCells vs (i * 2) hO.out
    have hfr := hI.out.front
    have hT : L.take j = L := List.take_of_length_le (by rw [HL.out]; exact Nat.le_refl _)
    rw [hT] at hfr
    have hcut := own_cutK w3 (m := i) (by omega)
    rw [w4, massC_take, hfr] at hcut
    have hcb := hid (below_setCells o1 vs (i * 2) hBl.out)
    have hlen : i = (L.filter fun x => !del x).length := by rw [← hfr, List.length_take, hDl, HL.out]; omega
    have HC := hid hcut; have HLN := hid hlen
    clear hlt o4 w3 w4 hfr hcut hlen hT
    go_wp2_with fail
    go_ret
    refine ⟨⟨i, HLN.out, rfl, HC.out⟩, hcb.out⟩
 ·have hk : (L.filter fun x => !del x) = L := List.filter_eq_self.2 fun x hx => by
   cases hd : del x
   ·rfl
   ·exact absurd (List.any_eq_true.2 ⟨x, hx, hd⟩) hany
  have ei : ixM del L = -1 := by rw [ixM, if_neg hany]
  rw [ei] at PI
  rw [hk]
  have q0 : ((-1 : Int) == -1) = true := rfl
  clear hO hF hb hany ei hk o1 o2 o3 o4
  go_enter Tryz.func39, Tryz.ntmps39
  go_wp2_with fail
  refine PI.out.mono ?_; rintro e w1 ⟨rfl, hb1⟩
  go_wp2_with fail
  go_ret
  exact ⟨⟨n, HL.out.symm, rfl, owns_call HO.out hb1⟩, hb1.mono HB.out⟩
end Go.Proofs.YtlmnpocifldpmaaGreatDoor
namespace Go.Proofs.YtlmnpocifldpmaaGreatDoor
open Go.RowKit
theorem owned_below {w W w3 : World} {t : TypeId} {z : Nat} {v : Value} {m : Nat} {vs : List Value} (h : W.ownsRow w.heap.size t z v m vs) (h0 : Below w.heap.size w W) (hg : W.grownBy w3 v.ownBlock) : Below w.heap.size w w3 := by
 refine h0.trans ⟨hg.os, hg.tape, hg.output, hg.size, fun j hj => hg.block j (Nat.lt_of_lt_of_le hj h0.size) fun e => ?_⟩
 have := (h.lt j e.symm).1
 omega
open Go.Shelf
open Go.Lib (decDigits nDigits)
def cpC (y : Int × ByteArray) : List Value := [.int .i64 y.1, .string y.2]
def cpF (L : List (Int × ByteArray)) : List Value := L.flatMap cpC
theorem cpF_length (L : List (Int × ByteArray)) : (cpF L).length = L.length * 2 := by
 unfold cpF
 induction L with
 | nil => rfl
 | cons p r ih => rw [List.flatMap_cons, List.length_append, ih, List.length_cons]; simp [cpC]; omega
theorem cpF_snoc (L : List (Int × ByteArray)) (y : Int × ByteArray) : cpF (L ++ [y]) = cpF L ++ cpC y := by simp [cpF]
theorem cpF_get {L : List (Int × ByteArray)} : ∀ {i : Nat} {y : Int × ByteArray}, L[i]? = some y → (cpF L)[i * 2]? = some (.int .i64 y.1) ∧ (cpF L)[i * 2 + 1]? = some (.string y.2) := by
 induction L with
 | nil => intro i p h; simp at h
 | cons q r ih =>
  intro i p h
  have hl : (cpC q).length = 2 := rfl
  cases i with
  | zero => simp at h; subst h; exact ⟨rfl, rfl⟩
  | succ i =>
   rw [List.getElem?_cons_succ] at h
   obtain ⟨h1, h2⟩ := ih h
   have e : cpF (q :: r) = cpC q ++ cpF r := rfl
   rw [e]
   refine ⟨?_, ?_⟩
   ·rw [List.getElem?_append_right (by omega), hl, show (i + 1) * 2 - 2 = i * 2 by omega]; exact h1
   ·rw [List.getElem?_append_right (by omega), hl, show (i + 1) * 2 + 1 - 2 = i * 2 + 1 by omega]; exact h2
theorem own_weakS {W : World} {base base' : Nat} {e : TypeId} {k : Nat} {v : Value} {n : Nat} {xs : List Value} (h : W.ownsRow base e k v n xs) (hb : base' ≤ base) : W.ownsRow base' e k v n xs := by
 obtain ⟨h1, h2⟩ := h
 rcases h2 with h2 | ⟨g, cap, cur, a1, a2, a3⟩
 ·exact ⟨h1, .inl h2⟩
 ·exact ⟨h1, .inr ⟨g, cap, cur, a1, Nat.le_trans hb a2, a3⟩⟩
structure PRow (w : World) (v : Value) (l : List (Int × ByteArray)) : Prop where
 ex : ∃ a c, v = .slice a l.length c ∧ l.length ≤ c ∧ c ≤ 9223372036854775807 ∧ ∀ (i : Nat) (x : Int × ByteArray), l[i]? = some x → ∃ g o, a = some ⟨g, o, none⟩ ∧ g < w.heap.size ∧ w.cell? ⟨g, o + i * 2, none⟩ = some (.int .i64 x.1) ∧ w.cell? ⟨g, o + i * 2 + 1, none⟩ = some (.string x.2)
theorem PRow.of_owns {w : World} {base n : Nat} {e : TypeId} {v : Value} {L : List (Int × ByteArray)} (h : w.ownsRow base e 2 v n (cpF L)) : PRow w v L := by
 have hn : n = L.length := by have := h.1; rw [cpF_length] at this; omega
 subst hn
 rcases h.2 with ⟨rfl, h0⟩ | ⟨g, cap, cur, rfl, hb, hg, k1, k2, k3, k4⟩
 ·have hl : L = [] := List.length_eq_zero_iff.1 (by omega)
  subst hl
  exact ⟨none, 0, rfl, Nat.le_refl _, by omega, fun i x hx => by simp at hx⟩
 ·obtain ⟨o1, o2, o3, o4, o5, o6⟩ := own_slotK h
  refine ⟨some ⟨g, 0, none⟩, cap, rfl, o6, o5, fun i x hx => ?_⟩
  obtain ⟨f1, f2⟩ := cpF_get hx
  refine ⟨g, 0, rfl, o2, ?_, ?_⟩
  ·rw [Nat.zero_add]; exact o4 _ _ f1
  ·rw [Nat.zero_add]; exact o4 _ _ f2
theorem info_sch : (Tryz.prog.info? 68).map (fun i => (i.zero, i.size, i.bytes)) = some (some (.agg #[.int .i64 0, .string ⟨#[]⟩]), 2, 24) := by kernel_rfl
theorem news_allS {W : World} {g : Nat} {cs : Array Value} {t : TypeId} (h : Blk W g cs t) : ∀ j u, cs.toList[j]? = some u → W.cell? ((⟨g, 0, none⟩ : Addr).add j) = some u := fun j u hj => by
 rw [Addr.add_lit, Nat.zero_add, h.cell]
 simpa using hj
noncomputable def chT (g : Int → Nat) (n : Nat) (d : List (ByteArray × ByteArray)) (i : Nat) : List (Int × ByteArray) := (chS (d.take i)).map fun v => (v, dyB (g v) n)
theorem chT_late {g : Int → Nat} {n : Nat} {d : List (ByteArray × ByteArray)} {i : Nat} {p : ByteArray × ByteArray} (h : d[i]? = some p) (hp : kz p.1 = none) : chT g n d (i + 1) = chT g n d i := by unfold chT; rw [chS_late h hp]
theorem chT_num {g : Int → Nat} {n : Nat} {d : List (ByteArray × ByteArray)} {i : Nat} {p : ByteArray × ByteArray} {v : Int} (h : d[i]? = some p) (hp : kz p.1 = some v) : chT g n d (i + 1) = chT g n d i ++ [(v, dyB (g v) n)] := by unfold chT; rw [chS_num h hp, List.map_append]; rfl
theorem chT_length (g : Int → Nat) (n : Nat) (d : List (ByteArray × ByteArray)) (i : Nat) : (chT g n d i).length ≤ d.length := by
 unfold chT
 rw [List.length_map]
 refine Nat.le_trans (chS_length _) ?_
 rw [List.length_take]
 omega
noncomputable def chU (g : Int → Nat) (n : Nat) (d : List (ByteArray × ByteArray)) (i : Nat) : ByteArray := dyB (sV g (chS (d.take i))) n
theorem sp_chances (w : World) (a : ByteArray) (n : Nat) (ha : a.size ≤ 100000) (hg0 : gPE a = 0) (hn : n ≤ 32) (hL : LayB w) :
 Calls Tryz.prog 32 #[.string a, .int .i64 (n : Nat)] w fun e w' => (∃ u, e = .returned (.tuple #[u, .string (dyB (zS n (gV (bN (cW a)) (bN (qD a)) true n)) n)]) ∧ w'.ownsRow w.heap.size 68 2 u ((chS (glR a (n : Nat) true)).map fun v => (v, dyB (gV (bN (cW a)) (bN (qD a)) true n v) n)).length (cpF ((chS (glR a (n : Nat) true)).map fun v => (v, dyB (gV (bN (cW a)) (bN (qD a)) true n v) n)))) ∧ Below w.heap.size w w' := by
 obtain ⟨i0, hi, hz0, hz1, hz2⟩ := info_parts info_sch
 have HTL := hid (g_TwoLaw w a (n : Nat) ha hL.l)
 have hgl0 : glE a (n : Nat) 32 = 0 := by unfold glE; rw [if_neg (by simpa using hg0), if_neg (by omega)]
 have hglR : glR a (n : Nat) true = sortM (glP (gV (bN (cW a)) (bN (qD a)) true n) (2 ^ n) n (gL (bN (cW a)) (bN (qD a)) true n)) := by unfold glR; rw [if_pos hgl0, Int.toNat_natCast]
 have hz : zS n (gV (bN (cW a)) (bN (qD a)) true n) ≤ 2 ^ n := by have := gV_all (gPE_ok hg0).2 true n; omega
 rw [hgl0] at HTL
 rw [hglR] at HTL ⊢
 obtain ⟨g, hgg⟩ : ∃ g, gV (bN (cW a)) (bN (qD a)) true n = g := ⟨_, rfl⟩
 obtain ⟨r, hrr⟩ : ∃ r, gL (bN (cW a)) (bN (qD a)) true n = r := ⟨_, rfl⟩
 rw [hgg, hrr] at HTL ⊢
 rw [hgg] at hz
 have hM : ∀ p ∈ sortM (glP g (2 ^ n) n r), (∃ v : Int, -(n : Int) ≤ v ∧ v ≤ n ∧ p.1 = zB v ∧ kz p.1 = some v ∧ p.2 = dyB (g v) n) ∨ (p.1 = lateB ∧ kz p.1 = none) := fun p hp => chS_mass hp
 have hR := runs_glP g (2 ^ n) n r
 have hlen : (sortM (glP g (2 ^ n) n r)).length ≤ 100 := by
  rw [sortM_length]
  have : (glP g (2 ^ n) n r).length ≤ 2 * n + 2 := by
   unfold glP glM
   rw [List.length_append]
   have h := List.length_filterMap_le (fun (j : Nat) => if g ((j : Int) - n) = 0 then none else some (zB ((j : Int) - n), shB (g ((j : Int) - n)) (2 ^ n))) (List.range (2 * n + 1))
   rw [List.length_range] at h
   have h2 : (if r = 0 then ([] : List (ByteArray × ByteArray)) else [(lateB, shB r (2 ^ n))]).length ≤ 1 := by split <;> simp
   omega
  omega
 obtain ⟨d, hd⟩ : ∃ d, sortM (glP g (2 ^ n) n r) = d := ⟨_, rfl⟩
 rw [hd] at HTL hM hR hlen ⊢
 have hle : ∀ i, sV g (chS (d.take i)) ≤ 2 ^ n := fun i => by
  have h1 : chS d = chS (d.take i) ++ chS (d.drop i) := by unfold chS; rw [← List.filterMap_append, List.take_append_drop]
  have h2 := hR g (fun v h => h)
  rw [h1] at h2
  unfold sV at h2 ⊢
  rw [List.map_append, List.sum_append] at h2
  omega
 have HLE := hid hle
 have HEND := hid (show sV g (chS d) = zS n g from hR g fun v h => h)
 have HM := hid hM; have HLN := hid hlen; have HN := hid hn; have HL := hid hL
 obtain ⟨L, hLL⟩ : ∃ L, d.length = L := ⟨_, rfl⟩
 have HLL := hid hLL
 clear ha hg0 hL hgl0 hglR hz hgg hrr hM hR hlen hd hle hn hLL
 go_enter Tryz.func32, Tryz.ntmps32
 go_wp2_with fail
 refine HTL.out.mono ?_; rintro e w1 ⟨⟨u1, rfl, hu1⟩, hb1⟩
 have y1 := hid hb1; have U1 := hid hu1
 obtain ⟨ad, cd, rfl, c1, c2, c3⟩ := hu1.ex
 have H3 := hid c3
 rw [HLL.out] at c1 U1 ⊢
 clear hb1 hu1 c3 HTL
 go_wp2_with fail
 go_loopw [8, 9, 11, 12, 13, 22] (fun s8 s9 s11 s12 s13 s22 wr => ∃ i : Nat, s22 = .int .i64 (i : Nat) ∧ i ≤ L ∧ s9 = .string (chU g n d i) ∧ Hid (wr.ownsRow w1.heap.size 68 2 s8 (chT g n d i).length (cpF (chT g n d i))) ∧ Hid (Below w1.heap.size w1 wr)) (fun s8 s9 s11 s12 s13 s22 wr => L - (intOf s22).toNat)
 case atStart => exact ⟨0, rfl, Nat.zero_le _, by unfold chU; rw [List.take_zero]; exact congrArg _ (dy_zero n).symm, World.ownsRow_nil _ _ _ _, Below.refl _ _⟩
 case round =>
  obtain ⟨i, rfl, hi, rfl, hO, hB⟩ := hrel
  have hl100 := HLN.out
  by_cases hlt : i < L
  ·obtain ⟨q, hq⟩ : ∃ q, d[i]? = some q := ⟨_, List.getElem?_eq_getElem (by rw [HLL.out]; exact hlt)⟩
   obtain ⟨gd, od, rfl, hgd, m1, m2⟩ := H3.out i q hq
   have r1 := (hB.out.cell (p := ⟨gd, od + 2 * i, none⟩) hgd).trans m1
   have r2 := (hB.out.cell (p := ⟨gd, od + 2 * i + 1, none⟩) hgd).trans m2
   rw [Nat.mul_comm 2] at r1 r2
   have f1 : (0 : Int) ≤ (i : Int) := by omega
   have f2 : (i : Int) < (L : Int) := by omega
   have wi : IntKind.i64.wrap ((i : Int) + 1) = ((i + 1 : Nat) : Int) := by rw [HLL.out] at hl100; rw [IntWalk.i64_in _ ⟨by omega, by omega⟩]; omega
   have HLT := hid hlt
   have BW := hid (bnext y1.out hB.out)
   obtain ⟨qk, qv⟩ := q
   dsimp only at r1 r2
   have AM := hid ((Below.refl wr.heap.size wr).alloc (Nat.le_refl _) (.cells #[.string qk, .string qv] 39))
   have XM := hid (Blk.new wr #[.string qk, .string qv] 39)
   have g0 := XM.out.cell 0
   have g1 := XM.out.cell 1
   simp at g0 g1
   rcases HM.out _ (List.mem_of_getElem? hq) with ⟨v, v1, v2, v3, v4, v5⟩ | ⟨v3, v4⟩
   ·dsimp only at v3 v4 v5
    have HT := hid (chT_num (g := g) (n := n) hq v4)
    have hU : sV g (chS (d.take (i + 1))) = sV g (chS (d.take i)) + g v := by
     rw [chS_num hq v4]
     unfold sV
     rw [List.map_append, List.sum_append]; simp
    have hle2 := HLE.out (i + 1)
    have HU : Hid (op2B (· + ·) (chU g n d i) qv = chU g n d (i + 1)) := by
     show _ = _
     unfold chU
     rw [v5, hU, dy_add (by omega) (by have := HN.out; omega)]
    have HP := fun V hV => hid (sp_plus V (chU g n d i) qv (Nat.le_trans (dyB_size (HLE.out i) (by have := HN.out; omega)) (by omega)) (by
     have : g v ≤ 2 ^ n := by omega
     rw [v5]; exact Nat.le_trans (dyB_size this (by have := HN.out; omega)) (by omega)) hV)
    rw [HU.out] at HP
    have PA := fun V => hid (b_AtoiZ V v (by have := HN.out; omega) (by have := HN.out; omega))
    rw [← v3] at PA
    have HQV := hid v5
    have HLB := hid (show (chT g n d i).length ≤ 100 from Nat.le_trans (chT_length g n d i) HLN.out)
    obtain ⟨S0, hS0⟩ : ∃ s, chU g n d i = s := ⟨_, rfl⟩
    obtain ⟨S1, hS1⟩ : ∃ s, chU g n d (i + 1) = s := ⟨_, rfl⟩
    rw [hS0, hS1] at HP
    rw [hS0]
    have HS1 := hid hS1
    clear hq hgd m1 m2 hlt hi hl100 v1 v2 v3 v4 v5 hU hle2 HU hS0 hS1
    go_wp2_with fail
    refine (PA _).out.mono ?_; rintro e w2 ⟨rfl, hb2⟩
    have x2 := hid (bnext AM.out hb2)
    have XM2 := hid (XM.out.call hb2)
    have KK : Hid (∀ V, Below w2.heap.size w2 V → V.cell? ⟨wr.heap.size, 1, none⟩ = some (.string qv)) := fun V hV => (XM2.out.call hV).cell 1
    have lt0 : Hid (∀ k, u8.ownBlock = some k → k < wr.heap.size) := fun k h => (hO.out.lt k h).2
    have HO2 := hid (owns_call hO.out x2.out)
    have HB2 := hid (bnext hB.out x2.out)
    clear hb2 g0 g1 r1 r2
    go_wp2_with fail
    refine held_plain [0, 1, 2, 3, 4, 7, 8, 9] 5 (fun V => V.cell? ⟨wr.heap.size, 1, none⟩ = some (.string qv)) (by kernel_rfl) (by kernel_rfl) (by kernel_rfl) (by kernel_rfl) (KK.out _ (Below.refl _ _).drew) ?_
    iterate 8
     refine ⟨_, rfl, ?_⟩
     apply Exists.intro
     refine ⟨.inl ⟨by rfl, ?_⟩, ?_⟩
     ·(intro W' hW'; obtain q9 := hW'; go_simp; try (with_reducible rfl))
     (dsimp only [Act.put]; try simp only [List.setIfInBounds_toArray, List.set_cons_zero, List.set_cons_succ])
    refine held_one (i := 5) (by kernel_rfl) (by rfl) (by rfl) ?_
    go_wp2_with fail
    have z1 := hid (((Below.refl w2.heap.size w2).alloc (Nat.le_refl _) (.cells #[.int .i64 v, .string qv] 68)).drew)
    have b1 := hid (show Blk (w2.alloc (.cells #[.int .i64 v, .string qv] 68)).drew w2.heap.size #[.int .i64 v, .string qv] 68 from (Blk.new w2 _ _).drew)
    have XM3 := hid (XM2.out.call z1.out)
    have o2 := hid (owns_call HO2.out z1.out)
    have h2 := hid (bnext HB2.out z1.out)
    obtain ⟨w2d, hw2d⟩ : ∃ W, (w2.alloc (.cells #[.int .i64 v, .string qv] 68)).drew = W := ⟨_, rfl⟩
    have hk1 := KK.out _ z1.out
    rw [hw2d] at z1 b1 XM3 o2 h2 hk1 ⊢
    clear hw2d
    refine ⟨hk1, ?_⟩
    clear hk1
    refine held_one (i := 6) (by kernel_rfl) (by rfl) (by rfl) ?_
    refine wpList_append_own_at _ rfl _ _ 62 rfl w1.heap.size 68 i0 (.agg #[.int .i64 0, .string ⟨#[]⟩]) 2 24 Tryz.underlying62 hi hz0 hz1 hz2 rfl (by decide) u8 (chT g n d i).length (cpF (chT g n d i)) rfl o2.out ⟨w2.heap.size, 0, none⟩ 1 1 [.int .i64 v, .string qv] rfl rfl (news_allS b1.out) (by simp [Value.oneCell']) (by have := HLB.out; unfold maxLen; omega) (by have := HLB.out; omega) h2.out.size ?_
    intro v2 w3 hown hgrow _ hat
    have O9 := hid hown; have B9 := hid (owned_below o2.out h2.out hgrow)
    have c9 := (XM3.out.grown hgrow (fun e => by have := lt0.out _ e; omega)).cell 1
    simp at c9
    clear hown hgrow hat
    go_wp2_with fail
    refine ⟨c9, ?_⟩
    have C9 := hid c9
    refine held_one (i := 10) (by kernel_rfl) (by rfl) (by rfl) ?_
    clear c9
    go_wp2_with fail
    refine (HP _ (HL.out.call (bnext y1.out B9.out)).l).out.mono ?_; rintro e w4 ⟨rfl, hb⟩
    have O10 := hid (owns_call O9.out hb); have B10 := hid (bnext B9.out hb)
    have c10 := (hb.cell (cell_lt C9.out)).trans C9.out
    clear hb
    go_wp2_with fail
    refine ⟨c10, ?_⟩
    refine held_more (is := [11, 12]) (g := 0) (by kernel_rfl) rfl c10 (by kernel_rfl) ?_
    iterate 2
     refine ⟨_, rfl, ?_⟩
     apply Exists.intro
     refine ⟨.inl ⟨by rfl, ?_⟩, ?_⟩
     ·(intro W' hW'; obtain q9 := hW'; go_simp; try (with_reducible rfl))
     (dsimp only [Act.put]; try simp only [List.setIfInBounds_toArray, List.set_cons_zero, List.set_cons_succ])
    refine wpAnyH_done (by kernel_rfl) ?_ _
    simp only [Only]
    go_wp2_with fail
    go_roundw
    case rel => exact ⟨i + 1, by go_num, by have := HLT.out; omega, by rw [HS1.out], by rw [HT.out, cpF_snoc, List.length_append, ← HQV.out]; exact O10.out, B10⟩
    case measure => simp [intOf] <;> (have := HLT.out; omega)
   ·dsimp only at v3 v4
    subst v3
    have HT := hid (chT_late (g := g) (n := n) hq v4)
    have HU : Hid (chU g n d (i + 1) = chU g n d i) := by show _ = _; unfold chU; rw [chS_late hq v4]
    have PA := fun V hV => hid (b_AtoiL V hV)
    clear hq hgd m1 m2 hlt hi hl100 v4
    obtain ⟨lt, hlt⟩ : ∃ s, lateB = s := ⟨_, rfl⟩
    rw [hlt] at PA r1 AM XM
    go_wp2_with fail
    refine (PA _ (HL.out.call (bnext BW.out AM.out)).s).out.mono ?_; rintro e w2 ⟨⟨te, pe, rfl⟩, hb2⟩
    have x2 := hid (bnext AM.out hb2)
    clear hb2 g0 g1 r1 r2
    go_wp2_with fail
    go_roundw
    case rel => exact ⟨i + 1, by go_num, by have := HLT.out; omega, by rw [HU.out], by rw [HT.out]; exact hO.out.kept (below_grown x2.out none) (by cases hv8 : Value.ownBlock _ <;> simp), bnext hB.out x2.out⟩
    case measure => simp [intOf] <;> (have := HLT.out; omega)
  ·obtain rfl : i = L := by omega
   have hT : d.take i = d := List.take_of_length_le (by rw [HLL.out]; exact Nat.le_refl _)
   have HO := hid (own_weakS hO.out y1.out.size)
   have hcU : chU g n d i = dyB (zS n g) n := by unfold chU; rw [hT, HEND.out]
   have hcT : chT g n d i = (chS d).map fun v => (v, dyB (g v) n) := by unfold chT; rw [hT]
   rw [hcU]
   rw [hcT] at HO
   have BW := hid (bnext y1.out hB.out)
   clear hlt hi hl100 hT hcU hcT
   go_wp2_with fail
   go_ret2
   exact ⟨⟨_, rfl, HO.out⟩, BW.out⟩
end Go.Proofs.YtlmnpocifldpmaaGreatDoor
namespace Go.Proofs.YtlmnpocifldpmaaGreatDoor
open Go.RowKit
def cmF (p q : Rat) : Int := if sgQ p ≠ sgQ q then sgQ p - sgQ q else if p.num < 0 then -ordN (p.num.natAbs * q.den) (q.num.natAbs * p.den) else ordN (p.num.natAbs * q.den) (q.num.natAbs * p.den)
theorem sgQ_scale {q : Rat} {d : Nat} (hd : 0 < d) : sgQ q = sgnZ (q.num * (d : Int)) := by
 have hd' : (0 : Int) < (d : Int) := by omega
 unfold sgQ sgnZ
 by_cases h0 : q.num = 0
 ·rw [if_pos h0, h0, Int.zero_mul, if_pos rfl]
 ·rw [if_neg h0]
  have hne : q.num * (d : Int) ≠ 0 := Int.mul_ne_zero h0 (by omega)
  rw [if_neg hne]
  by_cases h1 : q.num < 0
  ·rw [if_pos h1, if_pos (Int.mul_neg_of_neg_of_pos h1 hd')]
  ·rw [if_neg h1, if_neg (by have := Int.mul_pos (a := q.num) (b := (d : Int)) (by omega) hd'; omega)]
theorem clamp_int {P Q : Int} {a b : Nat} (ha : P.natAbs = a) (hb : Q.natAbs = b) :
 max (-1) (min 1 (if sgnZ P ≠ sgnZ Q then sgnZ P - sgnZ Q else if P < 0 then -ordN a b else ordN a b)) = sgnZ (P - Q) := by
 unfold sgnZ ordN
 split <;> (repeat' split) <;> omega
theorem cmF_clamp (p q : Rat) : max (-1) (min 1 (cmF p q)) = ordQ p q := by
 have e1 : ordQ p q = sgnZ (p.num * q.den - q.num * p.den) := by
  have h := ordQ_mk (a := p.num) (b := p.den) (c := q.num) (d := q.den) p.den_nz q.den_nz
  rw [Rat.mkRat_self, Rat.mkRat_self] at h
  exact h
 have h1 := sgQ_scale (q := p) (d := q.den) q.den_pos
 have h2 := sgQ_scale (q := q) (d := p.den) p.den_pos
 have hP : (p.num * (q.den : Int)).natAbs = p.num.natAbs * q.den := by rw [Int.natAbs_mul, Int.natAbs_natCast]
 have hQ : (q.num * (p.den : Int)).natAbs = q.num.natAbs * p.den := by rw [Int.natAbs_mul, Int.natAbs_natCast]
 have hs : p.num < 0 ↔ p.num * (q.den : Int) < 0 := by
  have hd : (0 : Int) < (q.den : Int) := by have := q.den_pos; omega
  constructor
  ·intro h; exact Int.mul_neg_of_neg_of_pos h hd
  ·intro h
   rcases Int.lt_or_le p.num 0 with h' | h'
   ·exact h'
   ·exact absurd (Int.mul_nonneg h' (Int.le_of_lt hd)) (by omega)
 rw [e1, ← clamp_int hP hQ, ← h1, ← h2]
 unfold cmF
 simp only [hs]
open Go.Lib (decDigits nDigits)
def mnB (s t : ByteArray) : ByteArray := if cmE s t = 0 then (if 0 < cmB s t then t else s) else ⟨#[]⟩
theorem cmB_three (s t : ByteArray) : cmB s t = -1 ∨ cmB s t = 0 ∨ cmB s t = 1 := by
 unfold cmB ordQ sgnQ
 split
 ·split
  ·simp
  ·split <;> simp
 ·simp
open Go.Shelf
theorem sml_inv {K : Nat} {q : Rat} (h0 : q ≠ 0) (h : Sml K q) : Sml K q⁻¹ := ⟨by rw [(inv_num h0).2.1]; exact h.d, by rw [(inv_num h0).2.2]; exact h.n⟩
theorem sg_ne {q : Rat} (h : q ≠ 0) : (sgQ q == 0) = false := by
 rw [beq_eq_false_iff_ne]
 have : q.num ≠ 0 := fun e => h (Rat.num_eq_zero.1 e)
 unfold sgQ
 repeat' split
 all_goals first | omega | (intro h; omega) | simp_all
theorem sgn_pow (m : Bool) (a : Nat) : ∀ n : Nat, (sgn m a) ^ n = sgn (m && decide (n % 2 = 1)) (a ^ n)
 | 0 => by simp [sgn]
 | n + 1 => by
  rw [Int.pow_succ, sgn_pow m a n, Nat.pow_succ]
  rcases Nat.mod_two_eq_zero_or_one n with h | h
  ·have e : (n + 1) % 2 = 1 := by omega
   cases m <;> simp [sgn, h, e, Int.mul_neg]
  ·have e : (n + 1) % 2 = 0 := by omega
   cases m <;> simp [sgn, h, e, Int.mul_neg, Int.neg_mul]
theorem pow_parts (q : Rat) (n : Nat) : decide ((q ^ n).num < 0) = (decide (q.num < 0) && decide (n % 2 = 1)) ∧ (q ^ n).num.natAbs = q.num.natAbs ^ n ∧ (q ^ n).den = q.den ^ n := by
 have h1 : (q ^ n).num = sgn (decide (q.num < 0) && decide (n % 2 = 1)) (q.num.natAbs ^ n) := by
  rw [Rat.num_pow, ← sgn_pow, sgn_of]
 refine ⟨?_, by rw [h1, sgn_natAbs], Rat.den_pow q n⟩
 rw [h1]
 by_cases hq : q.num < 0
 ·rw [sgn_neg (Nat.pow_pos (by omega))]
 ·have : decide (q.num < 0) = false := by simpa using hq
  rw [this]
  simp [sgn]
  exact Int.natCast_nonneg _
theorem pow_over {q : Rat} {n : Nat} (h : 4000 < nDigits (q.num.natAbs ^ n) ∨ 4000 < nDigits (q.den ^ n)) : outB (q ^ n) = ⟨#[]⟩ ∧ outE (q ^ n) = 5 := by
 obtain ⟨-, h2, h3⟩ := pow_parts q n
 have : ovQ (q ^ n) := by unfold ovQ; rw [h2, h3]; exact h
 exact ⟨if_pos this, if_pos this⟩
theorem q_Pow1 (w : World) (v : Value) (q : Rat) (n g1 : Nat) (hp : IsQ .u64 w v q) (sp : Sml 1000 q) (hn : n ≤ 9223372036854775807) (hL : Lay w) (c1 : w.cell? ⟨g1, 0, none⟩ = some (.int .i64 (n : Nat))) :
 Calls Tryz.prog 134 #[v, .pointer (some ⟨g1, 0, none⟩)] w fun e w' => e = .returned (.tuple #[.string (outB (q ^ n)), .int .i64 (outE (q ^ n))]) ∧ Below w.heap.size w w' := by
 have F1 := fun V v hv hV => hid (l_Pow V v q.num.natAbs n hv (Nat.le_trans sp.n (by omega)) (by omega) hV)
 have F2 := fun V v hv hV => hid (l_Pow V v q.den n hv (Nat.le_trans sp.d (by omega)) (by omega) hV)
 obtain ⟨e1, e2, e3⟩ := pow_parts q n
 have HOV := hid (fun h => pow_over (q := q) (n := n) h)
 have F3 := fun V v hv hV (h1 : nDigits (q.num.natAbs ^ n) ≤ 4000) (h2 : nDigits (q.den ^ n) ≤ 4000) => hid (f_Num V v (q ^ n) hv (by rw [e2]; exact Nat.le_trans (limbs_of_digits h1) (by omega)) (by rw [e3]; exact Nat.le_trans (limbs_of_digits h2) (by omega)) hV)
 obtain ⟨B, hB⟩ : ∃ B, outB (q ^ n) = B := ⟨_, rfl⟩
 obtain ⟨E, hE⟩ : ∃ E, outE (q ^ n) = E := ⟨_, rfl⟩
 rw [hB, hE] at F3 HOV ⊢
 clear hB hE
 have HL := hid hL
 obtain ⟨N1, D1, rfl, hn1, hd1⟩ := hp.ex
 obtain ⟨a1, c1', rfl, _⟩ := hn1.openI
 obtain ⟨a2, c2', rfl, _⟩ := hd1.openI
 obtain ⟨k1, hk1⟩ : ∃ k, (limbs q.num.natAbs).length = k := ⟨_, rfl⟩
 obtain ⟨k2, hk2⟩ : ∃ k, (limbs q.den).length = k := ⟨_, rfl⟩
 obtain ⟨m1, hm1⟩ : ∃ m, decide (q.num < 0) = m := ⟨_, rfl⟩
 rw [hk1, hk2, hm1] at hp ⊢
 rw [hk1] at hn1
 rw [hk2] at hd1
 rw [hm1] at e1
 have X1 := hid (Blk.new w #[.bool m1, .slice a1 k1 c1', .slice a2 k2 c2'] 94)
 have b1 := hid ((Below.refl w.heap.size w).alloc (Nat.le_refl _) (.cells #[.bool m1, .slice a1 k1 c1', .slice a2 k2 c2'] 94))
 have N2 := hid (hn1.call b1.out)
 have D2 := hid (hd1.call b1.out)
 have r0 := X1.out.cell 0
 have r1 := X1.out.cell 1
 have r2 := X1.out.cell 2
 have C1 := (b1.out.cell (cell_lt c1)).trans c1
 simp at r0 r1 r2
 have q0 : decide ((n : Int) < 0) = false := by simp
 have w0 : IntKind.u64.wrap (n : Int) = (n : Int) := IntWalk.u64_in _ ⟨by omega, by omega⟩
 have E1 := hid e1; have E2 := hid e2; have E3 := hid e3; have HN := hid hn
 clear hk1 hk2 hm1 hn1 hd1 hp hL sp e1 e2 e3 c1 hn
 go_enter Tryz.func134, Tryz.ntmps134
 go_wp2_with fail
 refine (F1 _ _ N2.out (HL.out.call b1.out)).out.mono ?_; rintro e w3 ⟨hr3, hb3⟩
 have y3 := hid (bnext b1.out hb3); have X3 := hid (X1.out.call hb3); have C3 := (hb3.cell (cell_lt C1)).trans C1; have D3 := hid (D2.out.call hb3)
 clear hb3 r0 r1 r2 C1
 have r0 := X3.out.cell 0
 have r1 := X3.out.cell 1
 have r2 := X3.out.cell 2
 simp at r0 r1 r2
 rcases hr3 with ⟨l3, v3, rfl, hv3⟩ | ⟨l3, rfl⟩
 ·obtain ⟨a3, c3, rfl, _⟩ := hv3.openI
  obtain ⟨k3, hk3⟩ : ∃ k, (limbs (q.num.natAbs ^ n)).length = k := ⟨_, rfl⟩
  rw [hk3] at hv3 ⊢
  have V3 := hid hv3; have L3 := hid l3
  clear hk3 hv3 l3
  go_wp2_with fail
  refine (F2 _ _ D3.out (HL.out.call y3.out)).out.mono ?_; rintro e w4 ⟨hr4, hb4⟩
  have y4 := hid (bnext y3.out hb4); have X4 := hid (X3.out.call hb4); have C4 := (hb4.cell (cell_lt C3)).trans C3; have V4 := hid (V3.out.call hb4)
  clear hb4 r0 r1 r2 C3
  have r0 := X4.out.cell 0
  have r1 := X4.out.cell 1
  have r2 := X4.out.cell 2
  simp at r0 r1 r2
  rcases hr4 with ⟨l4, v4, rfl, hv4⟩ | ⟨l4, rfl⟩
  ·obtain ⟨a4, c4, rfl, _⟩ := hv4.openI
   obtain ⟨k4, hk4⟩ : ∃ k, (limbs (q.den ^ n)).length = k := ⟨_, rfl⟩
   rw [hk4] at hv4 ⊢
   have W4 := hid hv4; have L4 := hid l4
   clear hk4 hv4 l4
   have M := hid (show IsQ .u64 w4 (.agg #[.bool (m1 && decide (n % 2 = 1)), .slice a3 k3 c3, .slice a4 k4 c4]) (q ^ n) from ⟨_, _, by rw [E1.out], by rw [E2.out]; exact V4.out, by rw [E3.out]; exact W4.out⟩)
   obtain ⟨Q, hQ⟩ : ∃ Q, q ^ n = Q := ⟨_, rfl⟩
   rw [hQ] at F3 M
   clear hQ HOV F1 F2
   have F4 := F3 _ _ M.out (HL.out.call y4.out) L3.out L4.out
   cases m1
   ·simp only [Bool.false_and] at F4
    go_wp2_with fail
    refine F4.out.mono ?_; rintro e w5 ⟨rfl, hb5⟩
    have y5 := hid (bnext y4.out hb5); clear hb5
    go_wp2_with fail
    go_ret2
    exact ⟨rfl, y5.out⟩
   ·simp only [Bool.true_and] at F4
    have e9 : ((n : Int) % 2 == 1) = decide (n % 2 = 1) := by
     rw [Bool.eq_iff_iff, beq_iff_eq, decide_eq_true_eq]; omega
    rw [← e9] at F4
    clear e9
    go_wp2_with fail
    refine F4.out.mono ?_; rintro e w5 ⟨rfl, hb5⟩
    have y5 := hid (bnext y4.out hb5); clear hb5
    go_wp2_with fail
    go_ret2
    exact ⟨rfl, y5.out⟩
  ·have e7 := hid (HOV.out (.inr l4))
   clear l4
   go_wp2_with fail
   go_ret2
   exact ⟨by rw [e7.out.1, e7.out.2]; rfl, y4.out⟩
 ·have e7 := hid (HOV.out (.inl l3))
  clear l3
  go_wp2_with fail
  refine (F2 _ _ D3.out (HL.out.call y3.out)).out.mono ?_; rintro e w4 ⟨hr4, hb4⟩
  have y4 := hid (bnext y3.out hb4)
  rcases hr4 with ⟨l4, v4, rfl, hv4⟩ | ⟨l4, rfl⟩
  ·obtain ⟨a4, c4, rfl, _⟩ := hv4.openI
   obtain ⟨k4, hk4⟩ : ∃ k, (limbs (q.den ^ n)).length = k := ⟨_, rfl⟩
   rw [hk4]
   clear hk4 hv4 l4 hb4
   go_wp2_with fail
   go_ret2
   exact ⟨by rw [e7.out.1, e7.out.2]; rfl, y4.out⟩
  ·clear l4 hb4
   go_wp2_with fail
   go_ret2
   exact ⟨by rw [e7.out.1, e7.out.2]; rfl, y4.out⟩
def pwB (n : Nat) (s : ByteArray) : ByteArray := op1B (· ^ n) s
def pwE (n : Nat) (s : ByteArray) : Int := op1E (· ^ n) s
theorem q_Pow (w : World) (s : ByteArray) (n : Nat) (hs : s.size ≤ 1000000) (hn : n ≤ 9223372036854775807) (hL : Lay w) :
 Calls Tryz.prog 63 #[.string s, .int .i64 (n : Nat)] w fun e w' => e = .returned (.tuple #[.string (pwB n s), .int .i64 (pwE n s)]) ∧ Below w.heap.size w w' := by
 have HL := hid hL
 have b1 := hid ((Below.refl w.heap.size w).alloc (Nat.le_refl _) (.cells #[.int .i64 (n : Nat)] 3))
 have X1 := hid (Blk.new w #[.int .i64 (n : Nat)] 3)
 obtain ⟨g1, hg1⟩ : ∃ g, w.heap.size = g := ⟨_, rfl⟩
 obtain ⟨w1, hw1⟩ : ∃ w1, w.alloc (.cells #[.int .i64 (n : Nat)] 3) = w1 := ⟨_, rfl⟩
 have L1 := hid (HL.out.call b1.out)
 have b1' := b1
 rw [hw1] at b1 X1 L1
 rw [hg1] at X1
 have W1 := hid (q_with w1 s 134 #[.pointer (some ⟨g1, 0, none⟩)] (outB (vQ s ^ n)) (outE (vQ s ^ n)) hs L1.out (enters_of Tryz.func134 (by kernel_rfl) rfl)
  (fun W v hq hb hv hLW => q_Pow1 W v (vQ s) n g1 hv (sml_vQ hq) hn hLW ((X1.out.call hb).cell 0)))
 have e1 : wB (outB (vQ s ^ n)) s = pwB n s := rfl
 have e2 : wE (outE (vQ s ^ n)) s = pwE n s := rfl
 rw [e1, e2] at W1
 obtain ⟨B, hB⟩ : ∃ B, pwB n s = B := ⟨_, rfl⟩
 obtain ⟨E, hE⟩ : ∃ E, pwE n s = E := ⟨_, rfl⟩
 rw [hB, hE] at W1 ⊢
 have HW := hid hw1; have HG := hid hg1
 clear hB hE hs hL hn e1 e2 hw1 hg1 b1'
 go_enter Tryz.func63, Tryz.ntmps63
 go_wp2_with fail
 have hw1 := HW.out; have hg1 := HG.out
 rw [hw1, hg1]
 refine W1.out.mono ?_; rintro e w2 ⟨rfl, hb2⟩
 have y2 := hid (bnext b1.out hb2)
 clear hb2 hw1 hg1
 go_wp2_with fail
 go_ret2
 exact ⟨rfl, y2.out⟩
end Go.Proofs.YtlmnpocifldpmaaGreatDoor
namespace Go.Proofs.YtlmnpocifldpmaaGreatDoor
open Go.RowKit
def p3 (N D n i k s : Nat) (v : Int) : Nat := if (k : Int) - (i : Int) = v then sumN (fun s' => edn N D k s' * cw (n - s') (oneP N D i)) s else 0
def q3 (N D n i k : Nat) (v : Int) : Nat := sumN (fun k' => p3 N D n i k' (n + 1) v) k
def t3 (N D n i : Nat) (v : Int) : Nat := sumN (fun i' => q3 N D n i' (n + 1) v) i
def c3 (N D n i k s : Nat) (v : Int) : Nat := t3 N D n i v + q3 N D n i k v + p3 N D n i k s v
open Go.Lib (decDigits nDigits)
theorem ratio_q {a : ByteArray} (h : gPE a = 0) : qE a = 0 ∧ iM (cW a) = false := by
 unfold gPE at h
 split at h
 ·rename_i he; exact absurd h he
 ·rename_i he
  split at h
  ·cases h
  ·rename_i hm
   refine ⟨by simpa using he, ?_⟩
   cases hi : iM (cW a)
   ·rfl
   ·exact absurd (.inl hi) hm
theorem ratio_pos {a : ByteArray} (h : gPE a = 0) (h0 : a ≠ ⟨#[48]⟩) : 0 < bN (cW a) := by
 obtain ⟨h1, h2⟩ := ratio_q h
 obtain ⟨v1, v2, -, -, -, v6⟩ := valid h1
 rw [iD_plain h2] at v1 v6
 rcases Nat.eq_zero_or_pos (bN (cW a)) with e | e
 ·refine absurd ?_ h0
  rw [e, Nat.gcd_zero_left] at v1
  rw [v6, e, v1, h2]
  apply ba_ext
  rw [txB_list, dec_zero]
  rfl
 ·exact e
section
variable {N D : Nat} (h : N < D)
include h
def o3 (N D n i j : Nat) : Nat := if n ≤ j ∧ j < n + i then gV N D false n ((j : Int) - n) else 0
omit h in
end
def pngB (n : Nat) (s : ByteArray) : ByteArray := op1B (fun q => q⁻¹ ^ n) s
def pngE (n : Nat) (s : ByteArray) : Int := op1E (fun q => q⁻¹ ^ n) s
def ivrE (a : ByteArray) : Int := if gPE a ≠ 0 then gPE a else if a = ⟨#[48]⟩ then 6 else 0
def ffM (reach : Int) (one : Bool) : Nat := if one = true then reach.toNat else 2 * reach.toNat
theorem glB_size (a : ByteArray) (n : Int) (two : Bool) : (glB a n two).size ≤ 10000 := by
 unfold glB
 split
 ·exact outB_size _
 ·exact Nat.zero_le _
theorem fx_size (f : Rat → Rat → Rat) (s t : ByteArray) : (op2B f s t).size ≤ 10000 := by
 unfold op2B
 split
 ·exact outB_size _
 ·exact Nat.zero_le _
theorem ivrE_ok {a : ByteArray} (h : ivrE a = 0) : gPE a = 0 ∧ a ≠ ⟨#[48]⟩ := by
 unfold ivrE at h
 split at h
 ·rename_i h1; exact absurd h h1
 ·rename_i h1
  refine ⟨Classical.byContradiction h1, fun e => ?_⟩
  rw [if_pos e] at h; cases h
theorem iv_pos {a : ByteArray} (h : ivrE a = 0) : qE a = 0 ∧ 0 < (vQ a).num := by
 obtain ⟨h1, h2⟩ := ivrE_ok h
 obtain ⟨hq, hm⟩ := ratio_q h1
 obtain ⟨e1, e2, e3⟩ := vQ_ok hq
 refine ⟨hq, ?_⟩
 have hp := ratio_pos h1 h2
 have e4 : iD (cW a) = cW a := iD_plain hm
 rw [e4] at e2
 have h3 : ¬ (vQ a).num < 0 := by
  have := e1
  rw [hm] at this
  simpa using this
 omega
theorem iv_ne {a : ByteArray} (h : ivrE a = 0) : vQ a ≠ 0 := fun e => by
 have := (iv_pos h).2
 rw [e] at this
 exact absurd this (by decide)
open Go.Shelf
theorem dy_sz (x m : Nat) : (dyB x m).size ≤ 1000000 := by
 have := outB_size (qmk false x (2 ^ m))
 show (outB _).size ≤ _
 omega
structure SqT (gA gC : Int → Nat) (n : Nat) (thr : Int) (c kA : List Int) (SA SC LT : ByteArray) (M : Int → ByteArray) (P D1 D2 H : Int → Nat → ByteArray) (F : Nat → Nat → ByteArray) (AF : Nat → ByteArray) (Z0 : ByteArray) : Prop where
 less : ∀ (V : World) x i, i < c.length → Lay V → Calls Tryz.prog 37 #[.string SC, .string (M (thr + x - c.getD i 0))] V fun e w' => e = .returned (.string (D1 x i)) ∧ Below V.heap.size V w'
 times1 : ∀ (V : World) x i, i < c.length → Lay V → Calls Tryz.prog 35 #[.string (P x i), .string (D1 x i)] V fun e w' => e = .returned (.string (D2 x i)) ∧ Below V.heap.size V w'
 times2 : ∀ (V : World) x i, i < c.length → Lay V → Calls Tryz.prog 35 #[.string (D2 x i), .string (AF (c.length - 1 - i))] V fun e w' => e = .returned (.string (H x i)) ∧ Below V.heap.size V w'
 plus : ∀ (V : World) x i j, i < c.length → kA[j]? = some x → Lay V → Calls Tryz.prog 34 #[.string (F i j), .string (H x i)] V fun e w' => e = .returned (.string (F i (j + 1))) ∧ Below V.heap.size V w'
 next : ∀ (V : World) x i, i < c.length → Lay V → Calls Tryz.prog 35 #[.string (P x i), .string (M (thr + x - c.getD i 0))] V fun e w' => e = .returned (.string (P x (i + 1))) ∧ Below V.heap.size V w'
 none : ∀ (V : World) x j, kA[j]? = some x → Lay V → Calls Tryz.prog 34 #[.string (F c.length j), .string (P x c.length)] V fun e w' => e = .returned (.string (F c.length (j + 1))) ∧ Below V.heap.size V w'
 after : ∀ (V : World) i, i < c.length → Lay V → Calls Tryz.prog 35 #[.string (AF i), .string SC] V fun e w' => e = .returned (.string (AF (i + 1))) ∧ Below V.heap.size V w'
 last1 : ∀ (V : World), Lay V → Calls Tryz.prog 35 #[.string SA, .string (AF c.length)] V fun e w' => e = .returned (.string Z0) ∧ Below V.heap.size V w'
 last2 : ∀ (V : World), Lay V → Calls Tryz.prog 37 #[.string ⟨#[49]⟩, .string Z0] V fun e w' => e = .returned (.string LT) ∧ Below V.heap.size V w'
 start : ∀ x, P x 0 = dyB (gA x) n
 zero : ∀ i, F i 0 = ⟨#[48]⟩
 one : AF 0 = ⟨#[49]⟩
 fin : ∀ i, i ≤ c.length → F i kA.length = dyB (sqT gA gC n thr c i) (n * (c.length + 1))
 late : LT = dyB (sqL gA gC n c.length) (n * (c.length + 1))
theorem sq_texts {gA gC : Int → Nat} {n : Nat} {thr : Int} {c kA : List Int} (hA : zS n gA ≤ 2 ^ n) (hC : zS n gC ≤ 2 ^ n) (hx : ∀ x, gA x ≤ 2 ^ n) (rA : Runs gA n kA) (hm : n * (c.length + 1) ≤ 1000) :
 SqT gA gC n thr c kA (dyB (zS n gA) n) (dyB (zS n gC) n) (dyB (sqL gA gC n c.length) (n * (c.length + 1))) (fun m => dyB (blw gC n m) n) (fun x i => dyB (sqP gA gC n thr x c i) (n * (i + 1)))
  (fun x i => op2B (· - ·) (dyB (zS n gC) n) (dyB (blw gC n (thr + x - c.getD i 0)) n)) (fun x i => op2B (· * ·) (dyB (sqP gA gC n thr x c i) (n * (i + 1))) (op2B (· - ·) (dyB (zS n gC) n) (dyB (blw gC n (thr + x - c.getD i 0)) n)))
  (fun x i => dyB (gA x * sqF gC n (thr + x) i 0 c) (n * (c.length + 1))) (fun i j => dyB (sqS gA gC n thr c kA i j) (n * (c.length + 1))) (fun i => dyB (zS n gC ^ i) (n * i)) (op2B (· * ·) (dyB (zS n gA) n) (dyB (zS n gC ^ c.length) (n * c.length))) where
 less V x i hi hL := sp_less V _ _ (dy_sz _ _) (dy_sz _ _) hL
 times1 V x i hi hL := sp_times V _ _ (dy_sz _ _) (Nat.le_trans (fx_size _ _ _) (by omega)) hL
 times2 V x i hi hL := by
  have h := sp_times V (op2B (· * ·) (dyB (sqP gA gC n thr x c i) (n * (i + 1))) (op2B (· - ·) (dyB (zS n gC) n) (dyB (blw gC n (thr + x - c.getD i 0)) n))) (dyB (zS n gC ^ (c.length - 1 - i)) (n * (c.length - 1 - i))) (Nat.le_trans (fx_size _ _ _) (by omega)) (dy_sz _ _) hL
  rw [sq_hit hA hC hx thr x hi hm] at h
  exact h
 plus V x i j hi hj hL := by
  have h := sp_plus V (dyB (sqS gA gC n thr c kA i j) (n * (c.length + 1))) (dyB (gA x * sqF gC n (thr + x) i 0 c) (n * (c.length + 1))) (dy_sz _ _) (dy_sz _ _) hL
  rw [sq_plus hA hC rA thr (Nat.le_of_lt hi) hj hm] at h
  exact h
 next V x i hi hL := by
  have h := sp_times V (dyB (sqP gA gC n thr x c i) (n * (i + 1))) (dyB (blw gC n (thr + x - c.getD i 0)) n) (dy_sz _ _) (dy_sz _ _) hL
  rw [sq_times hA hC hx thr x c (i := i) (Nat.le_trans (Nat.mul_le_mul_left n (by omega)) hm)] at h
  exact h
 none V x j hj hL := by
  have h := sp_plus V (dyB (sqS gA gC n thr c kA c.length j) (n * (c.length + 1))) (dyB (sqP gA gC n thr x c c.length) (n * (c.length + 1))) (dy_sz _ _) (dy_sz _ _) hL
  rw [sqP_end, sq_plus hA hC rA thr (Nat.le_refl _) hj hm, ← sqP_end] at h
  exact h
 after V i hi hL := by
  have h := sp_times V (dyB (zS n gC ^ i) (n * i)) (dyB (zS n gC) n) (dy_sz _ _) (dy_sz _ _) hL
  rw [sq_after hC (Nat.le_trans (Nat.mul_le_mul_left n (by omega)) hm)] at h
  exact h
 last1 V hL := sp_times V _ _ (dy_sz _ _) (dy_sz _ _) hL
 last2 V hL := by
  have h := sp_less V ⟨#[49]⟩ (op2B (· * ·) (dyB (zS n gA) n) (dyB (zS n gC ^ c.length) (n * c.length))) (by decide) (Nat.le_trans (fx_size _ _ _) (by omega)) hL
  rw [sq_sure hA hC hm] at h
  exact h
 start x := by
  show dyB (gA x * sqB gC n (thr + x) c 0) (n * (0 + 1)) = _
  rw [sqB, Nat.mul_one, Nat.zero_add, Nat.mul_one]
 zero i := by
  show dyB (sqS gA gC n thr c kA i 0) _ = _
  unfold sqS
  rw [List.take_zero, sV_nil, dy_zero]
 one := by
  show dyB (zS n gC ^ 0) (n * 0) = _
  rw [Nat.pow_zero, Nat.mul_zero]
  exact dy_full 0
 fin i hi := by
  show dyB (sqS gA gC n thr c kA i kA.length) _ = _
  rw [sqS_end rA]
 late := rfl
theorem SqT.conv {gA gC : Int → Nat} {n : Nat} {thr : Int} {c kA : List Int} {SA SC LT SA' SC' LT' Z0 Z0' : ByteArray} {M : Int → ByteArray} {P D1 D2 H : Int → Nat → ByteArray} {F : Nat → Nat → ByteArray} {AF : Nat → ByteArray} (h : SqT gA gC n thr c kA SA SC LT M P D1 D2 H F AF Z0) (e1 : Z0 = Z0') (e2 : SA = SA') (e3 : SC = SC') (e4 : LT = LT') : SqT gA gC n thr c kA SA' SC' LT' M P D1 D2 H F AF Z0' := by
 subst e1 e2 e3 e4; exact h
theorem sqW_startF {gA gC : Int → Nat} {n : Nat} {thr : Int} {c kA : List Int} {SA SC LT Z0 : ByteArray} {M : Int → ByteArray} {P D1 D2 H : Int → Nat → ByteArray} {F : Nat → Nat → ByteArray} {AF : Nat → ByteArray} (h : SqT gA gC n thr c kA SA SC LT M P D1 D2 H F AF Z0) : sqW gA gC n thr c 0 = [(m1B, F c.length kA.length), (lateB, LT)] := by
 unfold sqW
 rw [h.fin _ (Nat.le_refl _), h.late]; rfl
theorem sqW_nextF {gA gC : Int → Nat} {n : Nat} {thr : Int} {c kA : List Int} {SA SC LT Z0 : ByteArray} {M : Int → ByteArray} {P D1 D2 H : Int → Nat → ByteArray} {F : Nat → Nat → ByteArray} {AF : Nat → ByteArray} (h : SqT gA gC n thr c kA SA SC LT M P D1 D2 H F AF Z0) (i : Nat) (hi : i ≤ c.length) : sqW gA gC n thr c (i + 1) = sqW gA gC n thr c i ++ [(numB i, F i kA.length)] := by
 rw [sqW_succ, h.fin i hi]
def tlS (AF : Nat → ByteArray) (L i : Nat) : List ByteArray := (List.range L).map fun k => if L - i ≤ k then AF (L - 1 - k) else ⟨#[]⟩
theorem tlS_length (AF : Nat → ByteArray) (L i : Nat) : (tlS AF L i).length = L := by simp [tlS]
theorem tlS_get {AF : Nat → ByteArray} {L i k : Nat} (h : k < L) : (tlS AF L i)[k]? = some (if L - i ≤ k then AF (L - 1 - k) else ⟨#[]⟩) := by
 unfold tlS
 rw [List.getElem?_map, List.getElem?_range h]; rfl
theorem tlS_zero (AF : Nat → ByteArray) (L : Nat) : tlS AF L 0 = List.replicate L ⟨#[]⟩ := by
 apply List.ext_getElem?
 intro k
 by_cases h : k < L
 ·rw [tlS_get h, if_neg (by omega), List.getElem?_replicate, if_pos h]
 ·rw [List.getElem?_eq_none (by rw [tlS_length]; omega), List.getElem?_eq_none (by simp; omega)]
theorem tlS_next {AF : Nat → ByteArray} {L i : Nat} (h : i < L) : (tlS AF L i).set (L - 1 - i) (AF i) = tlS AF L (i + 1) := by
 apply List.ext_getElem?
 intro k
 rw [List.getElem?_set, tlS_length]
 by_cases hk : k < L
 ·rw [tlS_get hk, tlS_get hk]
  by_cases e : L - 1 - i = k
  ·subst e
   rw [if_pos rfl, if_pos (by omega), if_pos (by omega), show L - 1 - (L - 1 - i) = i by omega]
  ·rw [if_neg e]
   by_cases e2 : L - i ≤ k
   ·rw [if_pos e2, if_pos (by omega)]
   ·rw [if_neg e2, if_neg (by omega)]
 ·rw [List.getElem?_eq_none (l := tlS AF L i) (by rw [tlS_length]; omega), List.getElem?_eq_none (l := tlS AF L (i + 1)) (by rw [tlS_length]; omega), if_neg (by omega)]
theorem tlS_end {AF : Nat → ByteArray} {L k : Nat} (h : k < L) : (tlS AF L L)[k]? = some (AF (L - 1 - k)) := by rw [tlS_get h, if_pos (by omega)]
def fnS (F : Nat → Nat → ByteArray) (L j i : Nat) : List ByteArray := (List.range L).map fun k => if k < i then F k (j + 1) else F k j
theorem fnS_length (F : Nat → Nat → ByteArray) (L j i : Nat) : (fnS F L j i).length = L := by simp [fnS]
theorem fnS_get {F : Nat → Nat → ByteArray} {L j i k : Nat} (h : k < L) : (fnS F L j i)[k]? = some (if k < i then F k (j + 1) else F k j) := by
 unfold fnS
 rw [List.getElem?_map, List.getElem?_range h]; rfl
theorem fnS_at {F : Nat → Nat → ByteArray} {L j i : Nat} (h : i < L) : (fnS F L j i)[i]? = some (F i j) := by rw [fnS_get h, if_neg (Nat.lt_irrefl _)]
theorem fnS_next {F : Nat → Nat → ByteArray} {L j i : Nat} (h : i < L) : (fnS F L j i).set i (F i (j + 1)) = fnS F L j (i + 1) := by
 apply List.ext_getElem?
 intro k
 rw [List.getElem?_set, fnS_length]
 by_cases hk : k < L
 ·rw [fnS_get hk, fnS_get hk]
  by_cases e : i = k
  ·subst e
   rw [if_pos rfl, if_pos hk, if_pos (by omega)]
  ·rw [if_neg e]
   by_cases e2 : k < i
   ·rw [if_pos e2, if_pos (by omega)]
   ·rw [if_neg e2, if_neg (by omega)]
 ·rw [List.getElem?_eq_none (l := fnS F L j i) (by rw [fnS_length]; omega), List.getElem?_eq_none (l := fnS F L j (i + 1)) (by rw [fnS_length]; omega), if_neg (by omega)]
theorem fnS_row (F : Nat → Nat → ByteArray) (L j : Nat) : fnS F L j L = fnS F L (j + 1) 0 := by
 apply List.ext_getElem?
 intro k
 by_cases hk : k < L
 ·rw [fnS_get hk, fnS_get hk, if_pos hk, if_neg (by omega)]
 ·rw [List.getElem?_eq_none (by rw [fnS_length]; omega), List.getElem?_eq_none (by rw [fnS_length]; omega)]
theorem fnS_zero {F : Nat → Nat → ByteArray} (L : Nat) {s : ByteArray} (h : ∀ i, F i 0 = s) : fnS F L 0 0 = List.replicate L s := by
 apply List.ext_getElem?
 intro k
 by_cases hk : k < L
 ·rw [fnS_get hk, if_neg (by omega), List.getElem?_replicate, if_pos hk, h]
 ·rw [List.getElem?_eq_none (by rw [fnS_length]; omega), List.getElem?_eq_none (by simp; omega)]
open Go.Sort
theorem sp_below (w : World) (bn : Nat) (v1 : Value) (most : Int) (g : Int → Nat) (n : Nat) (k : List Int) (hn : n ≤ 32) (hz : zS n g ≤ 2 ^ n) (hr : Runs g n k) (hlen : k.length ≤ 100) (hc : w.cell? ⟨bn, 1, none⟩ = some v1) (hv : PRow w v1 (k.map fun v => (v, dyB (g v) n))) (hL : Lay w) :
 Calls Tryz.prog 33 #[.int .i64 most, .pointer (some ⟨bn, 0, none⟩)] w fun e w' => e = .returned (.string (dyB (blw g n most) n)) ∧ Below w.heap.size w w' := by
 obtain ⟨a, cp, rfl, q1, q2, q3⟩ := hv.ex
 obtain ⟨L, hLL⟩ : ∃ L, k.length = L := ⟨_, rfl⟩
 have e0 : (k.map fun v => (v, dyB (g v) n)).length = L := by rw [List.length_map]; exact hLL
 rw [e0] at q1 hc
 have HLL := hid hLL; have HL := hid hL; have HLN := hid hlen; have H3 := hid q3
 have HP := fun i (v : Int) (h : k[i]? = some v) (h2 : v < most) => hid (be_plus hz hr h h2 (by omega))
 have HS := fun i (v : Int) (h : k[i]? = some v) (h2 : most ≤ v) => hid (be_skip (g := g) h (Int.not_lt.2 h2))
 have HE := hid (be_end hr most)
 have HZ0 : Hid (dyB (beN' g k most 0) n = ⟨#[48]⟩) := by
  show _ = _
  unfold beN'
  rw [List.take_zero, sV_nil, dy_zero]
 clear hv hL hLL e0 q3 hr hz hlen hn
 go_enter Tryz.func33, Tryz.ntmps33
 go_wp2_with fail
 go_loopw [4, 6, 10] (fun s4 s6 s10 wr => ∃ i : Nat, s10 = .int .i64 (i : Nat) ∧ i ≤ L ∧ s4 = .string (dyB (beN' g k most i) n) ∧ Hid (Below w.heap.size w wr)) (fun s4 s6 s10 wr => L - (intOf s10).toNat)
 case atStart => exact ⟨0, rfl, Nat.zero_le _, by rw [HZ0.out], Below.refl _ _⟩
 case round =>
  obtain ⟨i, rfl, hi, rfl, hB⟩ := hrel
  have hl100 := HLN.out
  by_cases hlt : i < L
  ·obtain ⟨v, hv⟩ : ∃ v, k[i]? = some v := ⟨_, List.getElem?_eq_getElem (by rw [HLL.out]; exact hlt)⟩
   obtain ⟨gd, od, rfl, hgd, m1, m2⟩ := H3.out i (v, dyB (g v) n) (by rw [List.getElem?_map, hv]; rfl)
   dsimp only at m1 m2
   have r1 := (hB.out.cell (p := ⟨gd, od + i * 2, none⟩) hgd).trans m1
   have r2 := (hB.out.cell (p := ⟨gd, od + i * 2 + 1, none⟩) hgd).trans m2
   have f1 : (0 : Int) ≤ (i : Int) := by omega
   have f2 : (i : Int) < (L : Int) := by omega
   have wi : IntKind.i64.wrap ((i : Int) + 1) = ((i + 1 : Nat) : Int) := by rw [HLL.out] at hl100; rw [IntWalk.i64_in _ ⟨by omega, by omega⟩]; omega
   have PP := fun V hV => hid (sp_plus V (dyB (beN' g k most i) n) (dyB (g v) n) (dy_sz _ _) (dy_sz _ _) hV)
   have HPi := HP i v hv
   have HSi := HS i v hv
   obtain ⟨S, hS⟩ : ∃ S, dyB (beN' g k most i) n = S := ⟨_, rfl⟩
   obtain ⟨Y, hY⟩ : ∃ S, dyB (g v) n = S := ⟨_, rfl⟩
   rw [hS, hY] at PP
   rw [hS] at HPi ⊢
   rw [hY] at HPi r2
   have HS0 := hid hS
   have AM := hid ((Below.refl wr.heap.size wr).alloc (Nat.le_refl _) (.cells #[.int .i64 v, .string Y] 68))
   have XM := hid (Blk.new wr #[.int .i64 v, .string Y] 68)
   have g0 := XM.out.cell 0
   have g1 := XM.out.cell 1
   simp at g0 g1
   have HLT := hid hlt
   by_cases hvm : v < most
   ·have t0 : decide (v < most) = true := decide_eq_true hvm
    have HX := HPi hvm
    rw [HX.out] at PP
    clear hv hgd m1 m2 hS hY hlt hi hl100 hvm HPi HSi HX
    go_wp2_with fail
    refine (PP _ (HL.out.call (bnext hB.out AM.out))).out.mono ?_; rintro e w2 ⟨rfl, hb2⟩
    have y2 := hid (bnext hB.out (bnext AM.out hb2))
    clear hb2
    go_wp2_with fail
    go_roundw
    case rel => exact ⟨i + 1, by go_num, HLT.out, rfl, y2⟩
    case measure => simp [intOf] <;> (have := HLT.out; omega)
   ·have t0 : decide (v < most) = false := decide_eq_false hvm
    have HX := HSi (Int.not_lt.1 hvm)
    clear hv hgd m1 m2 hS hY hlt hi hl100 HPi HSi
    go_wp2_with fail
    go_roundw
    case rel => exact ⟨i + 1, by go_num, HLT.out, by rw [HX.out, HS0.out], bnext hB.out AM.out⟩
    case measure => simp [intOf] <;> (have := HLT.out; omega)
  ·obtain rfl : i = L := by omega
   have q0 : decide ((i : Int) < (i : Int)) = false := by simp
   have hE : dyB (beN' g k most i) n = dyB (blw g n most) n := by rw [← HE.out, HLL.out]
   rw [hE]
   clear hlt hi hl100 hE
   go_wp2_with fail
   go_ret
   exact ⟨rfl, hB.out⟩
theorem sp_isZ (w : World) (x : ByteArray × ByteArray) : Calls Tryz.prog 40 #[.agg #[.string x.1, .string x.2]] w fun e w' => e = .returned (.bool (!notZ x)) ∧ Below w.heap.size w w' := by
 obtain ⟨k, v⟩ := x
 have X1 := hid (Blk.new w #[.string k, .string v] 39)
 have z1 := X1.out.cell 1
 simp at z1
 dsimp only
 by_cases h : v = ⟨#[48]⟩
 ·subst h
  have e1 : (!notZ (k, (⟨#[48]⟩ : ByteArray))) = true := by simp [notZ]
  rw [e1]
  go_enter Tryz.func40, Tryz.ntmps40
  go_wp2_with fail
  go_ret
  exact ⟨rfl, (Below.refl _ _).alloc (Nat.le_refl _) _⟩
 ·have e1 : (!notZ (k, v)) = false := by simp [notZ, h]
  rw [e1]
  have t1 : (v.toList == [48]) = false := ne_lit h
  clear h e1
  go_enter Tryz.func40, Tryz.ntmps40
  go_wp2_with fail
  go_ret
  exact ⟨rfl, (Below.refl _ _).alloc (Nat.le_refl _) _⟩
theorem sp_order (p q : ByteArray × ByteArray) (w : World) : Calls Tryz.prog 42 #[.agg #[.string p.1, .string p.2], .agg #[.string q.1, .string q.2]] w fun e w' => e = .returned (.int .i64 (cmpK p q)) ∧ ∃ n os', w' = grow (w.drewN n) os' := by
 obtain ⟨p1, p2⟩ := p
 obtain ⟨q1, q2⟩ := q
 dsimp only
 have HC := fun V => hid (s_Compare V p1 q1)
 unfold cmpK keyL
 dsimp only
 obtain ⟨r, hr⟩ : ∃ r : Int, (if p1.data.toList < q1.data.toList then (-1 : Int) else if q1.data.toList < p1.data.toList then 1 else 0) = r := ⟨_, rfl⟩
 rw [hr] at HC ⊢
 clear hr
 go_enter Tryz.func42, Tryz.ntmps42
 go_wp2_with fail
 refine (HC _).out.mono ?_; rintro e w1 ⟨rfl, rfl⟩
 go_wp2_with fail
 go_ret
 exact ⟨rfl, 0, _, by rw [alloc_eq_grow, alloc_eq_grow, grow_grow]; rfl⟩
end Go.Proofs.YtlmnpocifldpmaaGreatDoor
namespace Go.Proofs.YtlmnpocifldpmaaGreatDoor
open Go.RowKit
open Go.Lib (decDigits nDigits)
def sqO (a r : ByteArray) (thr : Int) (c : List Int) : List ByteArray → Option Nat
 | [] => none
 | b :: bs => (nz1 true a thr b).bind fun t => (nzO true r c bs).map fun l => hitI t l
def sqnE (c : List Int) (thr : Int) (a r : ByteArray) : Int := if ctE c ≠ 0 then ctE c else if wildB thr = true then 2 else if gPE a ≠ 0 then gPE a else gPE r
def fsE (c : List Int) (thr : Int) (a r : ByteArray) (b : List ByteArray) : Int := if sqnE c thr a r ≠ 0 then sqnE c thr a r else wdE b ((c.length + 1 : Nat) : Int)
def fsV (n : Nat) : Option Nat → Int × Bool
 | none => (0, false)
 | some i => (if i = n then -1 else (i : Int), true)
def fsA (c : List Int) (thr : Int) (a r : ByteArray) (b : List ByteArray) : Int × Bool := if fsE c thr a r b = 0 then fsV c.length (sqO a r thr c b) else (0, false)
theorem sqnE_ok {c : List Int} {thr : Int} {a r : ByteArray} (h : sqnE c thr a r = 0) : ctE c = 0 ∧ wildB thr = false ∧ gPE a = 0 ∧ gPE r = 0 := by
 unfold sqnE at h
 split at h
 ·rename_i h1; exact absurd h h1
 ·rename_i h1
  split at h
  ·cases h
  ·rename_i h2
   split at h
   ·rename_i h3; exact absurd h h3
   ·rename_i h3
    exact ⟨Classical.byContradiction h1, by simpa using h2, Classical.byContradiction h3, h⟩
theorem nz1_shift (two : Bool) (a : ByteArray) (n s : Int) (b : ByteArray) : nz1 two a (n + s) b = (nz1 two a n b).map (· + s) := by
 unfold nz1
 dsimp only
 generalize (if two = true then wT a b else oT a b) = t
 by_cases h : t.1 = true
 ·rw [if_pos h, if_pos h, Option.map_some]
  congr 1; omega
 ·rw [if_neg h, if_neg h]; rfl
theorem nzO_shift (two : Bool) (a : ByteArray) (s : Int) : ∀ (c : List Int) (b : List ByteArray), nzO two a (c.map (· + s)) b = (nzO two a c b).map (List.map (· + s))
 | [], b => by simp [nzO]
 | c :: cs, [] => by simp [nzO]
 | c :: cs, b :: bs => by
  rw [List.map_cons, nzO, nzO, nz1_shift, nzO_shift two a s cs bs]
  cases nz1 two a c b with
  | none => rfl
  | some x => cases nzO two a cs bs <;> rfl
theorem hitI_shift (t s : Int) (l : List Int) : hitI (t + s) (l.map (· + s)) = hitI t l := by
 unfold hitI
 rw [List.findIdx_map]
 congr 1
 funext z
 simp only [Function.comp]
 rw [decide_eq_decide]
 omega
theorem sqO_shift (a r : ByteArray) (thr s : Int) (c : List Int) (b : List ByteArray) : sqO a r (thr + s) (c.map (· + s)) b = sqO a r thr c b := by
 cases b with
 | nil => rfl
 | cons b bs =>
  rw [sqO, sqO, nz1_shift, nzO_shift]
  cases nz1 true a thr b with
  | none => rfl
  | some t =>
   cases nzO true r c bs with
   | none => rfl
   | some l =>
    show some (hitI (t + s) (l.map (· + s))) = some (hitI t l)
    rw [hitI_shift]
theorem nz1_some (two : Bool) (a : ByteArray) (n m : Int) (b : ByteArray) : (nz1 two a n b).isSome = (nz1 two a m b).isSome := by
 unfold nz1
 dsimp only
 generalize (if two = true then wT a b else oT a b) = t
 by_cases h : t.1 = true
 ·rw [if_pos h, if_pos h]; rfl
 ·rw [if_neg h, if_neg h]
theorem nzO_some (two : Bool) (a : ByteArray) : ∀ (c d : List Int) (b : List ByteArray), c.length = d.length → (nzO two a c b).isSome = (nzO two a d b).isSome
 | [], [], b, _ => rfl
 | c :: cs, d :: ds, [], _ => by simp [nzO]
 | c :: cs, d :: ds, b :: bs, h => by
  have h1 := nz1_some two a c d b
  have h2 := nzO_some two a cs ds bs (by simpa using h)
  rw [nzO, nzO]
  revert h1 h2
  cases nz1 two a c b <;> cases nz1 two a d b <;> cases nzO two a cs bs <;> cases nzO two a ds bs <;> simp
theorem sqO_some (a r : ByteArray) (thr thr' : Int) (c d : List Int) (b : List ByteArray) (h : c.length = d.length) : (sqO a r thr c b).isSome = (sqO a r thr' d b).isSome := by
 cases b with
 | nil => rfl
 | cons b bs =>
  have h1 := nz1_some true a thr thr' b
  have h2 := nzO_some true r c d bs h
  rw [sqO, sqO]
  revert h1 h2
  cases nz1 true a thr b <;> cases nz1 true a thr' b <;> cases nzO true r c bs <;> cases nzO true r d bs <;> simp
theorem sqO_le {a r : ByteArray} {thr : Int} {c : List Int} {b : List ByteArray} (hb : b.length = c.length + 1) {i : Nat} (h : sqO a r thr c b = some i) : i ≤ c.length := by
 cases b with
 | nil => simp at hb
 | cons b bs =>
  rw [sqO] at h
  cases h1 : nz1 true a thr b with
  | none => rw [h1] at h; cases h
  | some t =>
   rw [h1] at h
   cases h2 : nzO true r c bs with
   | none => rw [h2] at h; cases h
   | some l =>
    rw [h2] at h
    have hl := nzO_length (by simpa using hb.symm) h2
    cases h
    rw [← hl]
    exact hitI_le t l
def slE (c : List Int) (thr : Int) (a r : ByteArray) (n : Int) : Int := if sqnE c thr a r ≠ 0 then sqnE c thr a r else if n < 0 ∨ 32 < n then 2 else if 256 < n * ((c.length : Int) + 1) then 5 else 0
def slR (c : List Int) (thr : Int) (a r : ByteArray) (n : Int) : List (ByteArray × ByteArray) := if slE c thr a r n = 0 then sortM (sqD (gV (bN (cW a)) (bN (qD a)) true n.toNat) (gV (bN (cW r)) (bN (qD r)) true n.toNat) n.toNat thr c) else []
def sltX (a r : ByteArray) (n many : Int) : Int := if gPE a ≠ 0 then gPE a else if gPE r ≠ 0 then gPE r else if n < 0 ∨ 256 < n ∨ many < 1 ∨ 256 < many then 2 else 0
def sltT (a r : ByteArray) (n many : Int) : ByteArray := op2B (· + ·) (glB a n true) (op2B (· * ·) (glB r n true) (numB many.toNat))
def sltB (a r : ByteArray) (n many : Int) : ByteArray := if sltX a r n many ≠ 0 then ⟨#[]⟩ else mnB (sltT a r n many) ⟨#[49]⟩
def sltE (a r : ByteArray) (n many : Int) : Int := if sltX a r n many ≠ 0 then sltX a r n many else cmE (sltT a r n many) ⟨#[49]⟩
def sffX (a r : ByteArray) (reach : Int) : Int := if ivrE a ≠ 0 then ivrE a else if ivrE r ≠ 0 then ivrE r else if reach < 0 ∨ 10000 < reach then 2 else 0
def sffY (a r : ByteArray) (reach : Int) (one : Bool) : Int := if pngE reach.toNat a ≠ 0 then pngE reach.toNat a else pngE (ffM reach one) r
def sffE (a r : ByteArray) (reach : Int) (one : Bool) : Int := if sffX a r reach ≠ 0 then sffX a r reach else if sffY a r reach one ≠ 0 then sffY a r reach one else op2E (· * ·) (pngB reach.toNat a) (pngB (ffM reach one) r)
def sffB (a r : ByteArray) (reach : Int) (one : Bool) : ByteArray := if sffX a r reach ≠ 0 then ⟨#[]⟩ else if sffY a r reach one ≠ 0 then ⟨#[]⟩ else op2B (· * ·) (pngB reach.toNat a) (pngB (ffM reach one) r)
open Go.Shelf
def orZ : List Int → Int
 | [] => 0
 | x :: r => if x ≠ 0 then x else orZ r
theorem orZ_at : ∀ {l : List Int} {i : Nat}, (∀ (j : Nat) (x : Int), j < i → l[j]? = some x → x = 0) → orZ l = orZ (l.drop i)
 | [], i, _ => by simp [orZ]
 | b :: r, 0, _ => rfl
 | b :: r, i + 1, h => by
  have h1 := h 0 b (by omega) rfl
  have h3 := orZ_at (l := r) (i := i) (fun j c hj hc => h (j + 1) c (by omega) (by simpa using hc))
  rw [orZ, if_neg (by simp [h1]), h3]
  rfl
theorem s_OrE (w : World) (v : Value) (l : List Int) (hv : Row w v (zs l)) :
 Calls Tryz.prog 44 #[v] w fun e w' => e = .returned (.int .i64 (orZ l)) ∧ w = w' := by
 obtain ⟨a, c, rfl, q1, q2, q3⟩ := hv.openZ
 obtain ⟨n, hn⟩ : ∃ n, l.length = n := ⟨_, rfl⟩
 obtain ⟨X, hX⟩ : ∃ X, orZ l = X := ⟨_, rfl⟩
 rw [hn] at q1 ⊢
 rw [hX]
 have HN := hid hn; have Q3 := hid q3; have HX := hid hX
 clear hv q3 hn hX
 go_enter Tryz.func44, Tryz.ntmps44
 go_wp2_with fail
 go_loop [8] (fun ii => ∃ i : Nat, ii = .int .i64 i ∧ i ≤ n ∧ Hid (∀ (j : Nat) (x : Int), j < i → l[j]? = some x → x = 0)) (fun ii => n - (intOf ii).toNat)
 case atStart => exact ⟨0, rfl, Nat.zero_le _, fun j x hj => absurd hj (by omega)⟩
 case round =>
  obtain ⟨i, rfl, hi, hI⟩ := hrel
  by_cases hlt : i < n
  ·obtain ⟨x, hx⟩ : ∃ x, l[i]? = some x := ⟨_, List.getElem?_eq_getElem (by rw [HN.out]; exact hlt)⟩
   obtain ⟨g, o, rfl, hg, hc⟩ := Q3.out i x hx
   have hdrop : l.drop i = x :: l.drop (i + 1) := by
    have hil : i < l.length := by rw [HN.out]; exact hlt
    rw [List.drop_eq_getElem_cons hil]
    have := List.getElem?_eq_getElem hil
    rw [hx] at this
    rw [Option.some.inj this]
   have HXX := hid hx; have HD := hid hdrop
   have b1 : (0 : Int) ≤ (i : Int) := by omega
   have b2 : (i : Int) < (n : Int) := by omega
   have wi : IntKind.i64.wrap ((i : Int) + 1) = ((i + 1 : Nat) : Int) := by rw [IntWalk.i64_in _ ⟨by omega, by omega⟩]; omega
   clear hx hdrop
   by_cases hx0 : x = 0
   ·have HZ := hid hx0
    have q0 : (x == 0) = true := by rw [beq_iff_eq]; exact hx0
    clear hx0
    go_wp2_with fail
    go_round
    case rel => exact ⟨i + 1, by go_num, by omega, fun j y hj hy => by
     rcases Nat.lt_or_ge j i with h | h
     ·exact hI.out j y h hy
     ·obtain rfl : j = i := by omega
      rw [HXX.out] at hy; cases hy; exact HZ.out⟩
    case measure => simp [intOf] <;> omega
   ·have q0 : (x == 0) = false := by rw [beq_eq_false_iff_ne]; exact hx0
    have HE : Hid (X = x) := by
     show X = x
     rw [← HX.out, orZ_at hI.out, HD.out, orZ, if_pos hx0]
    clear hx0
    go_wp2_with fail
    go_ret
    exact ⟨by rw [HE.out]; rfl, rfl⟩
  ·obtain rfl : i = n := by omega
   have HE : Hid (X = 0) := by
    show X = 0
    have hd : l.drop i = [] := List.drop_eq_nil_of_le (by rw [HN.out]; exact Nat.le_refl _)
    rw [← HX.out, orZ_at hI.out, hd]; rfl
   have q0 : decide ((i : Int) < (i : Int)) = false := by simp
   clear hlt
   go_wp2_with fail
   go_ret
   exact ⟨by rw [HE.out]; rfl, rfl⟩
end Go.Proofs.YtlmnpocifldpmaaGreatDoor
namespace Go.Proofs.YtlmnpocifldpmaaGreatDoor
open Go.RowKit
open Go.Shelf
theorem row_two (w : World) (p q : Int) (t : TypeId) : Row (w.alloc (.cells #[.int .i64 p, .int .i64 q] t)) (.slice (some ⟨w.heap.size, 0, none⟩) 2 2) (zs [p, q]) := by
 refine Row.of_blk (n := 2) (xs := zs [p, q]) (Blk.new w #[.int .i64 p, .int .i64 q] t) rfl (by decide) (fun i x hx => ?_) (Nat.le_refl _) (by decide)
 match i, hx with
 | 0, hx => exact hx
 | 1, hx => exact hx
 | i + 2, hx => simp [zs] at hx
end Go.Proofs.YtlmnpocifldpmaaGreatDoor
namespace Go.Proofs.YtlmnpocifldpmaaGreatDoor
open Go.RowKit
theorem sgQ_bd (q : Rat) : -1 ≤ sgQ q ∧ sgQ q ≤ 1 := by
 unfold sgQ
 split
 ·omega
 ·split <;> omega
theorem ordN_bd (a b : Nat) : -1 ≤ ordN a b ∧ ordN a b ≤ 1 := by
 unfold ordN
 split
 ·omega
 ·split <;> omega
theorem f_Cmp (w : World) (v u : Value) (p q : Rat) (hp : IsQ .u64 w v p) (hq : IsQ .u64 w u q)
 (h1 : (limbs p.num.natAbs).length ≤ 100000) (h2 : (limbs p.den).length ≤ 100000) (h3 : (limbs q.num.natAbs).length ≤ 100000) (h4 : (limbs q.den).length ≤ 100000) :
 Calls Tryz.prog 116 #[v, u] w fun e w' => e = .returned (.int .i64 (cmF p q)) ∧ Below w.heap.size w w' := by
 have PS1 := fun V v h => hid (f_Sign V v p h)
 have PS2 := fun V v h => hid (f_Sign V v q h)
 have PM1 := fun V v u hv hu => hid (l_Mul V v u p.num.natAbs q.den hv hu (Nat.le_trans h1 (by omega)) (Nat.le_trans h4 (by omega)))
 have PM2 := fun V v u hv hu => hid (l_Mul V v u q.num.natAbs p.den hv hu (Nat.le_trans h3 (by omega)) (Nat.le_trans h2 (by omega)))
 have lx := len_mul h1 h4
 have PC := fun V v u hv hu => hid (l_Cmp V v u (p.num.natAbs * q.den) (q.num.natAbs * p.den) hv hu (Nat.le_trans lx (by omega)))
 have bp := sgQ_bd p
 have bq := sgQ_bd q
 have bo := ordN_bd (p.num.natAbs * q.den) (q.num.natAbs * p.den)
 obtain ⟨Z, hZ⟩ : ∃ z, cmF p q = z := ⟨_, rfl⟩
 rw [hZ]
 unfold cmF at hZ
 obtain ⟨s1, hs1⟩ : ∃ z, sgQ p = z := ⟨_, rfl⟩
 obtain ⟨s2, hs2⟩ : ∃ z, sgQ q = z := ⟨_, rfl⟩
 obtain ⟨oc, hoc⟩ : ∃ z, ordN (p.num.natAbs * q.den) (q.num.natAbs * p.den) = z := ⟨_, rfl⟩
 rw [hs1] at PS1 bp hZ
 rw [hs2] at PS2 bq hZ
 rw [hoc] at PC bo hZ
 have HZ := hid hZ
 have HP := hid hp; have HQ := hid hq
 obtain ⟨N1, D1, rfl, hn1, hd1⟩ := hp.ex
 obtain ⟨N2, D2, rfl, hn2, hd2⟩ := hq.ex
 have HN1 := hid hn1; have HD1 := hid hd1; have HN2 := hid hn2; have HD2 := hid hd2
 obtain ⟨a1, c1, rfl, _⟩ := hn1.openI
 obtain ⟨a2, c2, rfl, _⟩ := hd1.openI
 obtain ⟨a3, c3, rfl, _⟩ := hn2.openI
 obtain ⟨a4, c4, rfl, _⟩ := hd2.openI
 obtain ⟨k1, hk1⟩ : ∃ k, (limbs p.num.natAbs).length = k := ⟨_, rfl⟩
 obtain ⟨k2, hk2⟩ : ∃ k, (limbs p.den).length = k := ⟨_, rfl⟩
 obtain ⟨k3, hk3⟩ : ∃ k, (limbs q.num.natAbs).length = k := ⟨_, rfl⟩
 obtain ⟨k4, hk4⟩ : ∃ k, (limbs q.den).length = k := ⟨_, rfl⟩
 obtain ⟨m1, hm1⟩ : ∃ m, decide (p.num < 0) = m := ⟨_, rfl⟩
 obtain ⟨m2, hm2⟩ : ∃ m, decide (q.num < 0) = m := ⟨_, rfl⟩
 rw [hk1] at HN1; rw [hk2] at HD1; rw [hk3] at HN2; rw [hk4] at HD2
 rw [hk1, hk2, hm1] at HP ⊢
 rw [hk3, hk4, hm2] at HQ ⊢
 have HM1 : Hid ((p.num < 0) ↔ m1 = true) := by rw [← hm1]; simp [Hid]
 clear hZ hk1 hk2 hk3 hk4 hm1 hm2 hn1 hn2 hd1 hd2 hp hq h1 h2 h3 h4 lx hs1 hs2 hoc
 have W12 : IntKind.i64.wrap (s1 - s2) = s1 - s2 := IntWalk.i64_in _ ⟨by omega, by omega⟩
 have WO : IntKind.i64.wrap (-oc) = -oc := IntWalk.i64_in _ ⟨by omega, by omega⟩
 clear bp bq bo
 go_enter Tryz.func116, Tryz.ntmps116
 go_wp2_with fail
 obtain ⟨W, hW⟩ : ∃ W, (w.alloc (.cells #[.bool m1, .slice a1 k1 c1, .slice a2 k2 c2] 94)).alloc (.cells #[.bool m2, .slice a3 k3 c3, .slice a4 k4 c4] 94) = W := ⟨_, rfl⟩
 have Y0 : Blk W w.heap.size #[.bool m1, .slice a1 k1 c1, .slice a2 k2 c2] 94 := by rw [← hW]; exact (Blk.new w _ _).alloc _
 have Y1 : Blk W (w.heap.size + 1) #[.bool m2, .slice a3 k3 c3, .slice a4 k4 c4] 94 := by rw [← hW]; exact Blk.made _ _ _ (by simp)
 have y0 : Below w.heap.size w W := by rw [← hW]; exact ((Below.refl _ _).alloc (Nat.le_refl _) _).alloc (by simp) _
 rw [hW]
 have KK : Hid (∀ w', Below W.heap.size W w' → w'.cell? ⟨w.heap.size, 0, none⟩ = some (.bool m1) ∧ w'.cell? ⟨w.heap.size, 1, none⟩ = some (.slice a1 k1 c1) ∧ w'.cell? ⟨w.heap.size, 2, none⟩ = some (.slice a2 k2 c2) ∧ w'.cell? ⟨w.heap.size + 1, 0, none⟩ = some (.bool m2) ∧ w'.cell? ⟨w.heap.size + 1, 1, none⟩ = some (.slice a3 k3 c3) ∧ w'.cell? ⟨w.heap.size + 1, 2, none⟩ = some (.slice a4 k4 c4)) := fun w' hb =>
  ⟨(Y0.call hb).cell 0, (Y0.call hb).cell 1, (Y0.call hb).cell 2, (Y1.call hb).cell 0, (Y1.call hb).cell 1, (Y1.call hb).cell 2⟩
 have Q1 := hid (HP.out.call y0); have Q2 := hid (HQ.out.call y0)
 have N1' := hid (HN1.out.call y0); have D1' := hid (HD1.out.call y0); have N2' := hid (HN2.out.call y0); have D2' := hid (HD2.out.call y0)
 have HY := hid y0
 clear Y0 Y1 y0 hW HN1 HD1 HN2 HD2 HP HQ
 refine held_plain [0, 2] 4 (fun w' => w'.cell? ⟨w.heap.size, 0, none⟩ = some (.bool m1) ∧ w'.cell? ⟨w.heap.size, 1, none⟩ = some (.slice a1 k1 c1) ∧ w'.cell? ⟨w.heap.size, 2, none⟩ = some (.slice a2 k2 c2) ∧ w'.cell? ⟨w.heap.size + 1, 0, none⟩ = some (.bool m2) ∧ w'.cell? ⟨w.heap.size + 1, 1, none⟩ = some (.slice a3 k3 c3) ∧ w'.cell? ⟨w.heap.size + 1, 2, none⟩ = some (.slice a4 k4 c4)) (by kernel_rfl) (by kernel_rfl) (by kernel_rfl) (by kernel_rfl) (KK.out _ (Below.refl _ _).drew) ?_
 iterate 2
  refine ⟨_, rfl, ?_⟩
  apply Exists.intro
  refine ⟨.inl ⟨by rfl, ?_⟩, ?_⟩
  ·(intro W' hW'; obtain ⟨q1, q2, q3, q4, q5, q6⟩ := hW'; go_simp; try (with_reducible rfl))
  (dsimp only [Act.put]; try simp only [List.setIfInBounds_toArray, List.set_cons_zero, List.set_cons_succ])
 refine held_one (i := 1) (by kernel_rfl) (by rfl) (by rfl) ?_
 go_wp2_with fail
 refine (PS1 _ _ (Q1.out.call (Below.refl _ _).drew)).out.mono ?_; rintro e w1 ⟨rfl, hb1⟩
 have x1 := hid (show Below W.heap.size W w1 from (Below.refl _ _).drew.trans hb1)
 clear hb1
 go_wp2_with fail
 refine ⟨KK.out _ x1.out, ?_⟩
 refine held_one (i := 3) (by kernel_rfl) (by rfl) (by rfl) ?_
 go_wp2_with fail
 refine (PS2 _ _ (Q2.out.call x1.out)).out.mono ?_; rintro e w2 ⟨rfl, hb2⟩
 have x2 := hid (bnext x1.out hb2)
 clear hb2
 go_wp2_with fail
 refine ⟨KK.out _ x2.out, ?_⟩
 refine held_more (is := [4, 5]) (g := 0) (by kernel_rfl) rfl (KK.out _ x2.out) (by kernel_rfl) ?_
 iterate 2
  refine ⟨_, rfl, ?_⟩
  apply Exists.intro
  refine ⟨.inl ⟨by rfl, ?_⟩, ?_⟩
  ·(intro W' hW'; obtain ⟨q1, q2, q3, q4, q5, q6⟩ := hW'; go_simp; try (with_reducible rfl))
  (dsimp only [Act.put]; try simp only [List.setIfInBounds_toArray, List.set_cons_zero, List.set_cons_succ])
 refine wpAnyH_done (by kernel_rfl) ?_ _
 simp only [Only]
 by_cases hne : s1 = s2
 ·subst hne
  have t0 : (s1 != s1) = false := by simp
  go_wp2_with fail
  refine held_plain [0, 1, 2, 3, 5, 6, 7, 8] 4 (fun w' => w'.cell? ⟨w.heap.size, 0, none⟩ = some (.bool m1) ∧ w'.cell? ⟨w.heap.size, 1, none⟩ = some (.slice a1 k1 c1) ∧ w'.cell? ⟨w.heap.size, 2, none⟩ = some (.slice a2 k2 c2) ∧ w'.cell? ⟨w.heap.size + 1, 0, none⟩ = some (.bool m2) ∧ w'.cell? ⟨w.heap.size + 1, 1, none⟩ = some (.slice a3 k3 c3) ∧ w'.cell? ⟨w.heap.size + 1, 2, none⟩ = some (.slice a4 k4 c4)) (by kernel_rfl) (by kernel_rfl) (by kernel_rfl) (by kernel_rfl) (KK.out _ x2.out.drew) ?_
  iterate 8
   refine ⟨_, rfl, ?_⟩
   apply Exists.intro
   refine ⟨.inl ⟨by rfl, ?_⟩, ?_⟩
   ·(intro W' hW'; obtain ⟨q1, q2, q3, q4, q5, q6⟩ := hW'; go_simp; try (with_reducible rfl))
   (dsimp only [Act.put]; try simp only [List.setIfInBounds_toArray, List.set_cons_zero, List.set_cons_succ])
  refine held_one (i := 4) (by kernel_rfl) (by rfl) (by rfl) ?_
  go_wp2_with fail
  refine (PM1 _ _ _ (N1'.out.call x2.out.drew) (D2'.out.call x2.out.drew)).out.mono ?_; rintro e w3 ⟨⟨v3, rfl, hv3⟩, hb3⟩
  have x3 := hid (show Below W.heap.size W w3 from bnext x2.out.drew hb3)
  have V3 := hid hv3
  clear hb3 hv3
  go_wp2_with fail
  refine ⟨KK.out _ x3.out, ?_⟩
  refine held_one (i := 9) (by kernel_rfl) (by rfl) (by rfl) ?_
  go_wp2_with fail
  refine (PM2 _ _ _ (N2'.out.call x3.out) (D1'.out.call x3.out)).out.mono ?_; rintro e w4 ⟨⟨v4, rfl, hv4⟩, hb4⟩
  have x4 := hid (bnext x3.out hb4)
  have V4 := hid hv4
  have V34 := hid (V3.out.call hb4)
  clear hb4 hv4
  go_wp2_with fail
  refine ⟨KK.out _ x4.out, ?_⟩
  refine held_one (i := 10) (by kernel_rfl) (by rfl) (by rfl) ?_
  go_wp2_with fail
  refine (PC _ _ _ V34.out V4.out).out.mono ?_; rintro e w5 ⟨rfl, hb5⟩
  have x5 := hid (bnext x4.out hb5)
  clear hb5
  go_wp2_with fail
  refine ⟨KK.out _ x5.out, ?_⟩
  refine held_more (is := [11]) (g := 0) (by kernel_rfl) rfl (KK.out _ x5.out) (by kernel_rfl) ?_
  iterate 1
   refine ⟨_, rfl, ?_⟩
   apply Exists.intro
   refine ⟨.inl ⟨by rfl, ?_⟩, ?_⟩
   ·(intro W' hW'; obtain ⟨q1, q2, q3, q4, q5, q6⟩ := hW'; go_simp; try (with_reducible rfl))
   (dsimp only [Act.put]; try simp only [List.setIfInBounds_toArray, List.set_cons_zero, List.set_cons_succ])
  refine wpAnyH_done (by kernel_rfl) ?_ _
  simp only [Only]
  obtain ⟨e0, e1, e2, e3, e4, e5⟩ := KK.out _ x5.out
  have yy := hid (bnext HY.out x5.out)
  cases m1
  ·go_wp2_with fail
   go_ret
   exact ⟨by rw [← HZ.out, if_neg (fun h => h rfl), if_neg (fun h => by have := HM1.out.1 h; simp at this)]; rfl, yy.out⟩
  ·go_wp2_with fail
   go_ret
   exact ⟨by rw [← HZ.out, if_neg (fun h => h rfl), if_pos (HM1.out.2 (by simp))]; rfl, yy.out⟩
 ·have t0 : (s1 != s2) = true := by simpa using hne
  have HNE := hid hne
  have yy := hid (bnext HY.out x2.out)
  clear hne
  go_wp2_with fail
  go_ret
  exact ⟨by rw [← HZ.out, if_pos HNE.out]; rfl, yy.out⟩
open Go.Shelf
open Go.Lib (decDigits nDigits)
def wI (z : Int) (s : ByteArray) : Int := if qE s = 0 then z else 0
def xE (x : Int) (s t : ByteArray) : Int := wE (wE x t) s
def tI (z : Int) (s t : ByteArray) : Int := wI (wI z t) s
theorem q_withI (w : World) (s : ByteArray) (F : Nat) (cs : Array Value) (R : Int) (x : Int) (hs : s.size ≤ 1000000) (hL : Lay w)
 (hen : ∀ args w, (callFunc F args).run Tryz.prog w = .ok (.enter F args) w)
 (hF : ∀ W v, qE s = 0 → Below w.heap.size w W → IsQ .u64 W v (vQ s) → Lay W → Calls Tryz.prog F (#[v] ++ cs) W fun e w' => e = .returned (.tuple #[.int .i64 R, .int .i64 x]) ∧ Below W.heap.size W w') :
 Calls Tryz.prog 179 #[.string s, .func (.func F) #[] cs] w fun e w' => e = .returned (.tuple #[.int .i64 (wI R s), .int .i64 (wE x s)]) ∧ Below w.heap.size w w' := by
 have HP := hid (f_Parse w s hs hL)
 have HL := hid hL
 have HF := hid hF
 clear hF hs hL
 by_cases h1 : qE s = 0
 ·have e1 : wI R s = R := if_pos h1
  have e2 : wE x s = x := if_pos h1
  rw [e1, e2]
  have HQ := hid h1
  rw [h1] at HP
  clear h1 e1 e2
  go_enter Tryz.func179, Tryz.ntmps179
  go_wp2_with fail
  refine HP.out.mono ?_; rintro e w1 ⟨⟨v, rfl, hv, -⟩, hb1⟩
  have hq := isQ_of HQ.out (hv rfl)
  have y1 := hid hb1
  obtain ⟨N, D, hvv, hN, hD⟩ := hv rfl
  subst hvv
  obtain ⟨a, c, rfl, _⟩ := hN.openI
  obtain ⟨a', c', rfl, _⟩ := hD.openI
  obtain ⟨k, hk⟩ : ∃ k, (limbs (bN (iD (cW s)))).length = k := ⟨_, rfl⟩
  obtain ⟨k', hk'⟩ : ∃ k, (limbs (bN (qD s))).length = k := ⟨_, rfl⟩
  obtain ⟨m, hm⟩ : ∃ m, iM (cW s) = m := ⟨_, rfl⟩
  rw [hk, hk', hm] at hq
  rw [hk, hk', hm]
  have Q1 := hid hq
  have X2 := hid (Blk.new w1 #[.bool m, .slice a k c, .slice a' k' c'] 94)
  have b2 := hid ((Below.refl w1.heap.size w1).alloc (Nat.le_refl _) (.cells #[.bool m, .slice a k c, .slice a' k' c'] 94))
  have y2 := hid (bnext y1.out b2.out)
  have Q2 := hid (hq.call b2.out)
  have r0 := X2.out.cell 0
  have r1 := X2.out.cell 1
  have r2 := X2.out.cell 2
  simp at r0 r1 r2
  clear hb1 hv hN hD hk hk' hm hq b2
  go_wp2_with fail
  refine (HF.out _ _ HQ.out y2.out Q2.out (HL.out.call y2.out)).mono ?_; rintro e w3 ⟨rfl, hb3⟩
  have y3 := hid (bnext y2.out hb3); clear hb3
  go_wp2_with fail
  go_ret2
  exact ⟨rfl, y3.out⟩
 ·have e1 : wI R s = 0 := if_neg h1
  have e2 : wE x s = qE s := if_neg h1
  rw [e1, e2]
  obtain ⟨y, hy⟩ : ∃ y, qE s = y := ⟨_, rfl⟩
  rw [hy] at HP h1 ⊢
  have q0 : (y == 0) = false := by simpa using h1
  have q1 : (y != 0) = true := by simpa using h1
  have H1 := hid h1
  clear e1 e2 hy h1
  go_enter Tryz.func179, Tryz.ntmps179
  go_wp2_with fail
  refine HP.out.mono ?_; rintro e w1 ⟨⟨v, rfl, -, hv⟩, hb1⟩
  have hv' := hv H1.out
  subst hv'
  have y1 := hid hb1
  have y2 := hid (y1.out.alloc y1.out.size (.cells #[.bool false, .slice none 0 0, .slice none 0 0] 94))
  clear hb1 hv
  go_wp2_with fail
  go_ret2
  exact ⟨rfl, y2.out⟩
theorem q_both11I (w : World) (v u : Value) (p q : Rat) (F g1 g2 : Nat) (R : Int) (x : Int) (hv : IsQ .u64 w v p) (hu : IsQ .u64 w u q) (hL : Lay w)
 (hen : ∀ args w, (callFunc F args).run Tryz.prog w = .ok (.enter F args) w)
 (c1 : w.cell? ⟨g1, 0, none⟩ = some (.func (.func F) #[] #[])) (m : Bool) (a a' : Option Addr) (k c k' c' : Nat) (hv0 : v = .agg #[.bool m, .slice a k c, .slice a' k' c'])
 (c2 : Blk w g2 #[.bool m, .slice a k c, .slice a' k' c'] 94)
 (hF : ∀ W v u, IsQ .u64 W v p → IsQ .u64 W u q → Lay W → Calls Tryz.prog F #[v, u] W fun e w' => e = .returned (.tuple #[.int .i64 R, .int .i64 x]) ∧ Below W.heap.size W w') :
 Calls Tryz.prog 181 #[u, .pointer (some ⟨g1, 0, none⟩), .pointer (some ⟨g2, 0, none⟩)] w fun e w' => e = .returned (.tuple #[.int .i64 R, .int .i64 x]) ∧ Below w.heap.size w w' := by
 have HF := hid hF
 have HL := hid hL
 obtain ⟨N, D, rfl, hN, hD⟩ := hu.ex
 obtain ⟨a1, d1, rfl, _⟩ := hN.openI
 obtain ⟨a2, d2, rfl, _⟩ := hD.openI
 obtain ⟨k1, hk1⟩ : ∃ k, (limbs q.num.natAbs).length = k := ⟨_, rfl⟩
 obtain ⟨k2, hk2⟩ : ∃ k, (limbs q.den).length = k := ⟨_, rfl⟩
 obtain ⟨mu, hmu⟩ : ∃ m, decide (q.num < 0) = m := ⟨_, rfl⟩
 rw [hk1, hk2, hmu] at hu
 rw [hk1, hk2, hmu]
 subst hv0
 have X2 := hid (Blk.new w #[.bool mu, .slice a1 k1 d1, .slice a2 k2 d2] 94)
 have b2 := hid ((Below.refl w.heap.size w).alloc (Nat.le_refl _) (.cells #[.bool mu, .slice a1 k1 d1, .slice a2 k2 d2] 94))
 have V2 := hid (hv.call b2.out)
 have U2 := hid (hu.call b2.out)
 have C1 := (b2.out.cell (cell_lt c1)).trans c1
 have C2 := hid (c2.call b2.out)
 have r0 := X2.out.cell 0
 have r1 := X2.out.cell 1
 have r2 := X2.out.cell 2
 have s0 := C2.out.cell 0
 have s1 := C2.out.cell 1
 have s2 := C2.out.cell 2
 simp at r0 r1 r2 s0 s1 s2
 clear hk1 hk2 hmu hN hD hv hu c1 c2 hF hL
 go_enter Tryz.func181, Tryz.ntmps181
 go_wp2_with fail
 refine (HF.out _ _ _ V2.out U2.out (HL.out.call b2.out)).mono ?_; rintro e w3 ⟨rfl, hb3⟩
 have y3 := hid (bnext b2.out hb3); clear hb3
 go_wp2_with fail
 go_ret2
 exact ⟨rfl, y3.out⟩
theorem q_both1I (w : World) (v : Value) (t : ByteArray) (p : Rat) (F g1 g2 : Nat) (R : Int) (x : Int) (ht : t.size ≤ 1000000) (hv : IsQ .u64 w v p) (hL : Lay w)
 (hen : ∀ args w, (callFunc F args).run Tryz.prog w = .ok (.enter F args) w)
 (c1 : w.cell? ⟨g1, 0, none⟩ = some (.string t)) (c2 : w.cell? ⟨g2, 0, none⟩ = some (.func (.func F) #[] #[]))
 (hF : ∀ W v u, qE t = 0 → IsQ .u64 W v p → IsQ .u64 W u (vQ t) → Lay W → Calls Tryz.prog F #[v, u] W fun e w' => e = .returned (.tuple #[.int .i64 R, .int .i64 x]) ∧ Below W.heap.size W w') :
 Calls Tryz.prog 180 #[v, .pointer (some ⟨g1, 0, none⟩), .pointer (some ⟨g2, 0, none⟩)] w fun e w' => e = .returned (.tuple #[.int .i64 (wI R t), .int .i64 (wE x t)]) ∧ Below w.heap.size w w' := by
 have HF := hid hF
 have HL := hid hL
 have HEN := hid hen
 obtain ⟨N, D, rfl, hN, hD⟩ := hv.ex
 obtain ⟨a1, d1, rfl, _⟩ := hN.openI
 obtain ⟨a2, d2, rfl, _⟩ := hD.openI
 obtain ⟨k1, hk1⟩ : ∃ k, (limbs p.num.natAbs).length = k := ⟨_, rfl⟩
 obtain ⟨k2, hk2⟩ : ∃ k, (limbs p.den).length = k := ⟨_, rfl⟩
 obtain ⟨mu, hmu⟩ : ∃ m, decide (p.num < 0) = m := ⟨_, rfl⟩
 rw [hk1, hk2, hmu] at hv
 rw [hk1, hk2, hmu]
 have X2 := hid (Blk.new w #[.bool mu, .slice a1 k1 d1, .slice a2 k2 d2] 94)
 have b2 := hid ((Below.refl w.heap.size w).alloc (Nat.le_refl _) (.cells #[.bool mu, .slice a1 k1 d1, .slice a2 k2 d2] 94))
 have V2 := hid (hv.call b2.out)
 have C1 := (b2.out.cell (cell_lt c1)).trans c1
 have C2 := hid ((b2.out.cell (cell_lt c2)).trans c2)
 have L2 := hid (HL.out.call b2.out)
 obtain ⟨w2, hw2⟩ : ∃ w2, w.alloc (.cells #[.bool mu, .slice a1 k1 d1, .slice a2 k2 d2] 94) = w2 := ⟨_, rfl⟩
 obtain ⟨g3, hg3⟩ : ∃ g, w.heap.size = g := ⟨_, rfl⟩
 have W2 := hid (q_withI w2 t 181 #[.pointer (some ⟨g2, 0, none⟩), .pointer (some ⟨g3, 0, none⟩)] R x ht (hw2 ▸ L2.out) (enters_of Tryz.func181 (by kernel_rfl) rfl)
  (fun W u hq hb hu hLW => by
   subst hw2
   subst hg3
   have hVW := V2.out.call hb
   have hX := X2.out.call hb
   have hC := (hb.cell (cell_lt C2.out)).trans C2.out
   exact q_both11I W _ u p (vQ t) F g2 w.heap.size R x hVW hu hLW HEN.out hC mu a1 a2 k1 d1 k2 d2 rfl hX (fun W v u h1 h2 h3 => HF.out W v u hq h1 h2 h3)))
 rw [hw2] at C1
 clear hk1 hk2 hmu hN hD hv c1 c2 hF hL hen
 go_enter Tryz.func180, Tryz.ntmps180
 go_wp2_with fail
 refine W2.out.mono ?_; rintro e w3 ⟨rfl, hb3⟩
 have y3 := hid (bnext b2.out (hw2 ▸ hb3)); clear hb3
 go_wp2_with fail
 go_ret2
 exact ⟨rfl, y3.out⟩
theorem q_bothI (w : World) (s t : ByteArray) (F : Nat) (R : Int) (x : Int) (hs : s.size ≤ 1000000) (ht : t.size ≤ 1000000) (hL : Lay w)
 (hen : ∀ args w, (callFunc F args).run Tryz.prog w = .ok (.enter F args) w)
 (hF : ∀ W v u, qE s = 0 → qE t = 0 → IsQ .u64 W v (vQ s) → IsQ .u64 W u (vQ t) → Lay W → Calls Tryz.prog F #[v, u] W fun e w' => e = .returned (.tuple #[.int .i64 R, .int .i64 x]) ∧ Below W.heap.size W w') :
 Calls Tryz.prog 114 #[.string s, .string t, .func (.func F) #[] #[]] w fun e w' => e = .returned (.tuple #[.int .i64 (tI R s t), .int .i64 (xE x s t)]) ∧ Below w.heap.size w w' := by
 have HF := hid hF
 have HL := hid hL
 have HEN := hid hen
 have HT := hid ht
 have b1 := hid ((Below.refl w.heap.size w).alloc (Nat.le_refl _) (.cells #[.string t] 22))
 obtain ⟨w1, hw1⟩ : ∃ w1, w.alloc (.cells #[.string t] 22) = w1 := ⟨_, rfl⟩
 obtain ⟨g1, hg1⟩ : ∃ g, w.heap.size = g := ⟨_, rfl⟩
 have X1 := hid (Blk.new w #[.string t] 22)
 rw [hw1] at b1
 rw [hw1, hg1] at X1
 have b2 := hid ((Below.refl w1.heap.size w1).alloc (Nat.le_refl _) (.cells #[.func (.func F) #[] #[]] 143))
 obtain ⟨w2, hw2⟩ : ∃ w2, w1.alloc (.cells #[.func (.func F) #[] #[]] 143) = w2 := ⟨_, rfl⟩
 have X2 := hid (Blk.new w1 #[.func (.func F) #[] #[]] 143)
 have X12 := hid (X1.out.call b2.out)
 have y2 := hid (bnext b1.out b2.out)
 have hg2 : w1.heap.size = g1 + 1 := by rw [← hw1, ← hg1]; simp
 rw [hw2] at b2 X12 y2
 rw [hw2, hg2] at X2
 have L2 := hid (HL.out.call y2.out)
 have W2 := hid (q_withI w2 s 180 #[.pointer (some ⟨g1, 0, none⟩), .pointer (some ⟨g1 + 1, 0, none⟩)] (wI R t) (wE x t) hs L2.out (enters_of Tryz.func180 (by kernel_rfl) rfl)
  (fun W v hq hb hv hLW => by
   have hX1 := (X12.out.call hb).cell 0
   have hX2 := (X2.out.call hb).cell 0
   exact q_both1I W v t (vQ s) F g1 (g1 + 1) R x HT.out hv hLW HEN.out hX1 hX2 (fun W v u h0 h1 h2 h3 => HF.out W v u hq h0 h1 h2 h3)))
 have HW1 := hid hw1; have HW2 := hid hw2; have HG1 := hid hg1
 clear hF hL hen hs ht hw1 hw2 hg1 hg2 b1
 go_enter Tryz.func114, Tryz.ntmps114
 go_wp2_with fail
 have hw1 := HW1.out; have hw2 := HW2.out; have hg1 := HG1.out
 rw [hw1, hg1, hw2]
 refine W2.out.mono ?_; rintro e w3 ⟨rfl, hb3⟩
 have y3 := hid (bnext y2.out hb3)
 clear hb3 hw1 hw2 hg1
 go_wp2_with fail
 go_ret2
 exact ⟨rfl, by have := y3.out; exact this⟩
theorem c2I (s t : ByteArray) : tI (ordQ (vQ s) (vQ t)) s t = cmB s t := by
 unfold tI wI cmB
 by_cases h1 : qE s = 0 <;> by_cases h2 : qE t = 0 <;> simp [h1, h2]
theorem c2E (s t : ByteArray) : xE 0 s t = cmE s t := by
 unfold xE wE cmE
 by_cases h1 : qE s = 0 <;> by_cases h2 : qE t = 0 <;> simp [h1, h2]
theorem q_Cmp1 (w : World) (v u : Value) (p q : Rat) (hp : IsQ .u64 w v p) (hq : IsQ .u64 w u q) (sp : Sml 1000 p) (sq : Sml 1000 q) (hL : Lay w) :
 Calls Tryz.prog 115 #[v, u] w fun e w' => e = .returned (.tuple #[.int .i64 (ordQ p q), .int .i64 0]) ∧ Below w.heap.size w w' := by
 have F1 := fun V v u hv hu => hid (f_Cmp V v u p q hv hu (Nat.le_trans sp.n (by omega)) (Nat.le_trans sp.d (by omega)) (Nat.le_trans sq.n (by omega)) (Nat.le_trans sq.d (by omega)))
 have HC := hid (cmF_clamp p q)
 obtain ⟨Z, hZ⟩ : ∃ Z, cmF p q = Z := ⟨_, rfl⟩
 rw [hZ] at F1 HC
 rw [← HC.out]
 obtain ⟨N1, D1, rfl, hn1, hd1⟩ := hp.ex
 obtain ⟨N2, D2, rfl, hn2, hd2⟩ := hq.ex
 obtain ⟨a1, c1, rfl, _⟩ := hn1.openI
 obtain ⟨a2, c2, rfl, _⟩ := hd1.openI
 obtain ⟨a3, c3, rfl, _⟩ := hn2.openI
 obtain ⟨a4, c4, rfl, _⟩ := hd2.openI
 obtain ⟨k1, hk1⟩ : ∃ k, (limbs p.num.natAbs).length = k := ⟨_, rfl⟩
 obtain ⟨k2, hk2⟩ : ∃ k, (limbs p.den).length = k := ⟨_, rfl⟩
 obtain ⟨k3, hk3⟩ : ∃ k, (limbs q.num.natAbs).length = k := ⟨_, rfl⟩
 obtain ⟨k4, hk4⟩ : ∃ k, (limbs q.den).length = k := ⟨_, rfl⟩
 obtain ⟨m1, hm1⟩ : ∃ m, decide (p.num < 0) = m := ⟨_, rfl⟩
 obtain ⟨m2, hm2⟩ : ∃ m, decide (q.num < 0) = m := ⟨_, rfl⟩
 rw [hk1, hk2, hm1] at hp ⊢
 rw [hk3, hk4, hm2] at hq ⊢
 have X1 := hid (Blk.new w #[.bool m1, .slice a1 k1 c1, .slice a2 k2 c2] 94)
 have b1 := hid ((Below.refl w.heap.size w).alloc (Nat.le_refl _) (.cells #[.bool m1, .slice a1 k1 c1, .slice a2 k2 c2] 94))
 have Y1 := hid (X1.out.alloc (.cells #[.bool m2, .slice a3 k3 c3, .slice a4 k4 c4] 94))
 have X2 := hid (Blk.new (w.alloc (.cells #[.bool m1, .slice a1 k1 c1, .slice a2 k2 c2] 94)) #[.bool m2, .slice a3 k3 c3, .slice a4 k4 c4] 94)
 have b2 := hid (b1.out.alloc b1.out.size (.cells #[.bool m2, .slice a3 k3 c3, .slice a4 k4 c4] 94))
 have P2 := hid (hp.call b2.out)
 have Q2 := hid (hq.call b2.out)
 have r0 := Y1.out.cell 0
 have r1 := Y1.out.cell 1
 have r2 := Y1.out.cell 2
 have s0 := X2.out.cell 0
 have s1 := X2.out.cell 1
 have s2 := X2.out.cell 2
 simp at r0 r1 r2 s0 s1 s2
 clear hk1 hk2 hk3 hk4 hm1 hm2 hn1 hn2 hd1 hd2 hp hq hL sp sq hZ
 go_enter Tryz.func115, Tryz.ntmps115
 go_wp2_with fail
 refine (F1 _ _ _ P2.out Q2.out).out.mono ?_; rintro e w3 ⟨rfl, hb3⟩
 have y3 := hid (bnext b2.out hb3)
 clear hb3
 go_wp2_with fail
 go_ret2
 exact ⟨rfl, y3.out⟩
theorem q_Cmp (w : World) (s t : ByteArray) (hs : s.size ≤ 1000000) (ht : t.size ≤ 1000000) (hL : Lay w) :
 Calls Tryz.prog 52 #[.string s, .string t] w fun e w' => e = .returned (.tuple #[.int .i64 (cmB s t), .int .i64 (cmE s t)]) ∧ Below w.heap.size w w' := by
 have H := hid (q_bothI w s t 115 (ordQ (vQ s) (vQ t)) 0 hs ht hL (enters_of Tryz.func115 (by kernel_rfl) rfl)
  (fun W v u h1 h2 hv hu hLW => q_Cmp1 W v u _ _ hv hu (sml_vQ h1) (sml_vQ h2) hLW))
 rw [c2I, c2E] at H
 obtain ⟨B, hB⟩ : ∃ B, cmB s t = B := ⟨_, rfl⟩
 obtain ⟨E, hE⟩ : ∃ E, cmE s t = E := ⟨_, rfl⟩
 rw [hB, hE] at H ⊢
 clear hB hE hs ht hL
 go_enter Tryz.func52, Tryz.ntmps52
 go_wp2_with fail
 refine H.out.mono ?_; rintro e w3 ⟨rfl, hb3⟩
 have y3 := hid hb3; clear hb3
 go_wp2_with fail
 go_ret2
 exact ⟨rfl, y3.out⟩
theorem q_chooseMin (w : World) (s t : ByteArray) (hs : s.size ≤ 1000000) (ht : t.size ≤ 1000000) (hL : Lay w) :
 Calls Tryz.prog 141 #[.string s, .string t, .int .i64 1] w fun e w' => e = .returned (.tuple #[.string (mnB s t), .int .i64 (cmE s t)]) ∧ Below w.heap.size w w' := by
 have H := hid (q_Cmp w s t hs ht hL)
 unfold mnB
 have h3 := cmB_three s t
 obtain ⟨B, hB⟩ : ∃ B, cmB s t = B := ⟨_, rfl⟩
 obtain ⟨E, hE⟩ : ∃ E, cmE s t = E := ⟨_, rfl⟩
 rw [hB] at h3
 rw [hB, hE] at H ⊢
 clear hB hE hs ht hL
 by_cases he : E = 0
 ·subst he
  rcases h3 with rfl | rfl | rfl
  ·go_enter Tryz.func141, Tryz.ntmps141
   go_wp2_with fail
   refine H.out.mono ?_; rintro e w3 ⟨rfl, hb3⟩
   have y3 := hid hb3; clear hb3
   go_wp2_with fail
   go_ret2
   exact ⟨rfl, y3.out⟩
  ·go_enter Tryz.func141, Tryz.ntmps141
   go_wp2_with fail
   refine H.out.mono ?_; rintro e w3 ⟨rfl, hb3⟩
   have y3 := hid hb3; clear hb3
   go_wp2_with fail
   go_ret2
   exact ⟨rfl, y3.out⟩
  ·go_enter Tryz.func141, Tryz.ntmps141
   go_wp2_with fail
   refine H.out.mono ?_; rintro e w3 ⟨rfl, hb3⟩
   have y3 := hid hb3; clear hb3
   go_wp2_with fail
   go_ret2
   exact ⟨rfl, y3.out⟩
 ·rw [if_neg he]
  have q0 : (E == 0) = false := by simpa using he
  have q1 : (E != 0) = true := by simpa using he
  clear he h3
  go_enter Tryz.func141, Tryz.ntmps141
  go_wp2_with fail
  refine H.out.mono ?_; rintro e w3 ⟨rfl, hb3⟩
  have y3 := hid hb3; clear hb3
  go_wp2_with fail
  go_ret2
  exact ⟨rfl, y3.out⟩
theorem q_Min (w : World) (s t : ByteArray) (hs : s.size ≤ 1000000) (ht : t.size ≤ 1000000) (hL : Lay w) :
 Calls Tryz.prog 70 #[.string s, .string t] w fun e w' => e = .returned (.tuple #[.string (mnB s t), .int .i64 (cmE s t)]) ∧ Below w.heap.size w w' := by
 have H := hid (q_chooseMin w s t hs ht hL)
 obtain ⟨B, hB⟩ : ∃ B, mnB s t = B := ⟨_, rfl⟩
 obtain ⟨E, hE⟩ : ∃ E, cmE s t = E := ⟨_, rfl⟩
 rw [hB, hE] at H ⊢
 clear hB hE hs ht hL
 go_enter Tryz.func70, Tryz.ntmps70
 go_wp2_with fail
 refine H.out.mono ?_; rintro e w3 ⟨rfl, hb3⟩
 have y3 := hid hb3; clear hb3
 go_wp2_with fail
 go_ret2
 exact ⟨rfl, y3.out⟩
theorem q_Int (w : World) (n : Nat) (h : n ≤ 9223372036854775807) (hL : Lay w) :
 Calls Tryz.prog 71 #[.int .i64 (n : Nat)] w fun e w' => e = .returned (.string (numB n)) ∧ Below w.heap.size w w' := by
 have H := hid (s_Itoa w n h hL)
 obtain ⟨s, hs⟩ : ∃ s, numB n = s := ⟨_, rfl⟩
 rw [hs] at H ⊢
 clear hs h hL
 go_enter Tryz.func71, Tryz.ntmps71
 go_wp2_with fail
 refine H.out.mono ?_; rintro e w3 ⟨rfl, hb3⟩
 have y3 := hid hb3; clear hb3
 go_wp2_with fail
 go_ret
 exact ⟨rfl, y3.out⟩
end Go.Proofs.YtlmnpocifldpmaaGreatDoor
