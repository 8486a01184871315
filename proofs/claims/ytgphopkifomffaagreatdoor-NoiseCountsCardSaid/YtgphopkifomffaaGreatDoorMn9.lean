/- Texts that the proof rests on, merged: Gd1, Gd2, Sw2, AtZ, Df0, KoA, Sa6, Fd9, Na6, Nz0, Nz1, Fd6, Fac0, Gm0, Cr0, Lr0, Fd14, Tz, Nz3, Nx0, Nx1, Nd0, Nla, Na2, Fd12, Nap, Sf0, KoI. -/
import Derived.Test.YtgphopkifomffaaGreatDoorMn8
import Derived.Maps.RangeWalk
import Derived.Maps.StringElems
import Derived.Maps.OwnSet
import Derived.Deep.DeepCutAuto
import Derived.Lib.SliceRun
import Derived.Deep.AppendLies
import Derived.Maps.AppendAt
import Derived.WalkLawsBesides
import Derived.IntWalk
import Derived.RangeFuncBox
namespace Go.Proofs.YtgphopkifomffaaGreatDoor
open Go.RowKit Go.Sort Go.Shelf Go.Maps
open Go.Lib (decDigits nDigits)
set_option linter.unusedVariables false
set_option linter.unusedSimpArgs false
def prL (N D : Nat) (two : Bool) (n : Nat) (vs : List Int) : List (ByteArray × ByteArray) := vs.map fun v => (zB v, shB (gV N D two n v) (2 ^ n))
theorem prL_snoc (N D : Nat) (two : Bool) (n : Nat) (vs : List Int) (v : Int) : prL N D two n (vs ++ [v]) = prL N D two n vs ++ [(zB v, shB (gV N D two n v) (2 ^ n))] := by simp [prL]
theorem seen_len {n : Nat} {vs : List Int} (hn : vs.Nodup) (hb : ∀ v ∈ vs, -(n : Int) ≤ v ∧ v ≤ n) : vs.length ≤ 2 * n + 1 := by
  have h := seen_sum (fun _ => 1) n vs hn hb
  have h2 : sumN (fun j => if ((j : Int) - n) ∈ vs then 1 else 0) (2 * n + 1) ≤ sumN (fun _ => 1) (2 * n + 1) := sumN_le fun j _ => by split <;> omega
  have h3 : ∀ m, sumN (fun _ => 1) m = m := fun m => by
    induction m with
    | zero => rfl
    | succ m ih => rw [sumN, ih]
  have h4 : ∀ l : List Int, (l.map fun _ => 1).sum = l.length := fun l => by
    induction l with
    | nil => rfl
    | cons a r ih => rw [List.map_cons, List.sum_cons, ih, List.length_cons]; omega
  rw [h3] at h2
  rw [h4] at h
  omega
set_option maxRecDepth 100000 in
set_option maxHeartbeats 8000000 in
theorem g_listed_ok {H : Type} (w : World) (a : ByteArray) (n N D : Nat) (two : Bool) (ha : a.size ≤ 100000) (he : gPE a = 0) (hn : n ≤ 32) (hN : bN (cW a) = N) (hD : bN (qD a) = D) (hND : N < D) (hL : Lay w) :
    Calls Tryz.prog 56 #[.string a, .int .i64 n, .bool two] w fun e w' => (∃ v, e = .returned (.tuple #[v, .int .i64 0]) ∧ MRow w' v (sortM (glP (gV N D two n) (2 ^ n) n (gL N D two n)))) ∧ Below w.heap.size w w' := by
  have HA := hid (g_ratio w a ha hL)
  rw [if_pos he, if_pos he, he] at HA
  have HLAW : ∀ V, Lay V → Hid (Calls Tryz.prog 97 #[.string a, .int .i64 n, .bool two] V fun e w' => (∃ B nn Dm, e = .returned (.map (some B)) ∧ V.heap.size ≤ B ∧ nn ≤ 3000000 ∧ w'.ownsMap Tryz.prog 3 (plainElem (H := H) Tryz.prog 22) B nn Dm ∧ ReadsI Dm (gV N D two n)) ∧ Below V.heap.size V w') := fun V hV => by
    cases two
    · exact g_law1 V a n N D ha he hn hN hD hND hV
    · exact g_law2 V a n N D ha he hn hN hD hND hV
  have HPW := fun V hV => hid (g_power V n (by omega) hV)
  have HSL : Hid (∀ vs left, Seen (gV N D two n) n left vs → (vs.map (gV N D two n)).sum ≤ 2 ^ n) := fun vs left h => h.sum_le hND
  have HSA : Hid (∀ vs left, Seen (gV N D two n) n left vs → (∀ v, left v = false) → 2 ^ n - (vs.map (gV N D two n)).sum = gL N D two n) := fun vs left h hl => h.sum_all hND hl
  have HSP : Hid (∀ vs left, Seen (gV N D two n) n left vs → (∀ v, left v = false) → ∀ r, ((prL N D two n vs ++ if r = 0 then [] else [(lateB, shB r (2 ^ n))]).map keyL).Nodup ∧ sortM (prL N D two n vs ++ if r = 0 then [] else [(lateB, shB r (2 ^ n))]) = sortM (glP (gV N D two n) (2 ^ n) n r)) := fun vs left h hl r => h.pairs hND hl
  have HVS : Hid (∀ vs left, Seen (gV N D two n) n left vs → vs.length ≤ 100) := fun vs left h => by
    have h1 := seen_len h.nd fun v hv => by
      have h1 := ((h.mem v).1 hv).1
      rcases Int.lt_or_le v (-(n : Int)) with h2 | h2
      · exact absurd (gV_out hND (.inl h2)) h1
      · rcases Int.lt_or_le (n : Int) v with h3 | h3
        · exact absurd (gV_out hND (.inr h3)) h1
        · exact ⟨h2, h3⟩
    omega
  have HOUT : Hid (∀ v, gV N D two n v ≠ 0 → -100 ≤ v ∧ v ≤ 100) := fun v h1 => by
    rcases Int.lt_or_le v (-(n : Int)) with h2 | h2
    · exact absurd (gV_out hND (.inl h2)) h1
    · rcases Int.lt_or_le (n : Int) v with h3 | h3
      · exact absurd (gV_out hND (.inr h3)) h1
      · omega
  have HGV : Hid (∀ v, gV N D two n v ≤ 2 ^ n) := fun v => gV_le hND two n v
  have hpn : 2 ^ n ≤ 2 ^ 32 := Nat.pow_le_pow_right (by omega) hn
  have dT := two_pow_digits hpn (by omega)
  have hT0 : 2 ^ n ≠ 0 := Nat.ne_of_gt (Nat.pow_pos (by omega))
  have HMK : ∀ x, x ≤ 2 ^ n → ∀ V, Lay V → Hid (Calls Tryz.prog 98 #[.string (numB x), .string (numB (2 ^ n))] V fun e w' => e = .returned (.tuple #[.string (shB x (2 ^ n)), .int .i64 (outE (qmk false x (2 ^ n)))]) ∧ Below V.heap.size V w') := fun x hx V hV => pk_make V x (2 ^ n) (two_pow_digits (i := 32) (by omega) (by omega)) dT hT0 hV
  have HSB : ∀ x y, y ≤ x → x ≤ 2 ^ n → ∀ V, Lay V → Hid (Calls Tryz.prog 99 #[.string (numB x), .string (numB y)] V fun e w' => e = .returned (.tuple #[.string (numB (x - y)), .int .i64 0]) ∧ Below V.heap.size V w') := fun x y hy hx V hV => p_sub V x y (two_pow_digits (i := 32) (by omega) (by omega)) (two_pow_digits (i := 32) (by omega) (by omega)) hy hV
  have HMK' := hid HMK; have HSB' := hid HSB
  obtain ⟨cg, hcg⟩ : ∃ c, gV N D two n = c := ⟨_, rfl⟩
  obtain ⟨gl, hgl⟩ : ∃ c, gL N D two n = c := ⟨_, rfl⟩
  obtain ⟨pr, hpr⟩ : ∃ c, prL N D two n = c := ⟨_, rfl⟩
  have HPR : Hid (∀ vs v, pr (vs ++ [v]) = pr vs ++ [(zB v, shB (cg v) (2 ^ n))]) := fun vs v => by rw [← hpr, ← hcg]; exact prL_snoc N D two n vs v
  have HPL : Hid (∀ vs, (pr vs).length = vs.length) := fun vs => by rw [← hpr]; unfold prL; rw [List.length_map]
  have HP0 : Hid (pr [] = []) := by show pr [] = []; rw [← hpr]; rfl
  rw [hcg] at HSL HSA HSP HVS HOUT HGV
  rw [hpr] at HSP
  rw [hgl] at HSA
  simp only [hcg] at HLAW
  rw [hcg, hgl]
  obtain ⟨T, hT⟩ : ∃ T, 2 ^ n = T := ⟨_, rfl⟩
  obtain ⟨sT, hsT⟩ : ∃ s, numB T = s := ⟨_, rfl⟩
  rw [hT] at HPW HSL HSA HSP HGV HMK' HSB' HPR hT0 ⊢
  rw [hsT] at HPW
  simp only [hsT] at HMK'
  have HST := hid hsT; have HT0 := hid hT0
  have HLy := hid hL; have HN := hid hn
  have q0 : decide ((n : Int) < 0) = false := by simp
  have q1 : decide ((32 : Int) < (n : Int)) = false := by simp; omega
  obtain ⟨i0, hi, hz0, hz1, hz2⟩ := info_parts info_mass
  clear ha he hn hN hD hND hL hcg hgl hpr hT hsT hpn dT hT0 HMK HSB
  go_enter Tryz.func56, Tryz.ntmps56
  go_wp2_with fail
  refine HA.out.mono ?_; rintro e w1 ⟨rfl, hb1⟩
  have B1 := hid hb1; clear hb1 HA
  go_wp2_with fail
  refine (HPW _ (HLy.out.call B1.out)).out.mono ?_; rintro e w2 ⟨rfl, hb2⟩
  have B2 := hid (bnext B1.out hb2); clear hb2
  go_wp2_with fail
  refine (HLAW _ (HLy.out.call B2.out)).out.mono ?_; rintro e w3 ⟨⟨B, nn, Dm, rfl, hBs, hnn, hown, hR⟩, hb3⟩
  have B3 := hid (bnext B2.out hb3); have HR := hid hR; have HBS := hid hBs
  clear hb3 hBs hnn hR HLAW
  go_wp2_with (first | (at_range; refine wpList_range_own _ rfl _ 137 rfl 3 22 (int_keyed Tryz.underlying3) Tryz.underlying137 _ B nn Dm rfl hown ?_; intro w4 hrg0 hg0 hs0) | go_in)
  go_frame
  have B4 : Hid (Below w.heap.size w w4) := B3.out.trans ⟨hg0.os, hg0.tape, hg0.output, hg0.size, fun k hk => hg0.block k (by have := B3.out.size; omega) (by simp)⟩
  obtain ⟨r, hr⟩ : ∃ r, w3.heap.size = r := ⟨_, rfl⟩
  rw [hr] at hrg0 ⊢
  have Hr : Hid (w.heap.size ≤ r ∧ r < w4.heap.size ∧ B < w4.heap.size) := ⟨by rw [← hr]; exact B3.out.size, hrg0.lt, hrg0.owns.lt⟩
  have S0 : Hid (Seen cg n (fun v => Maps.has Dm (.int .i64 v)) []) := Seen.start fun v hv => by rw [HR.out.has]; simpa using hv
  have RG := hid hrg0
  have HB0 : Hid (w.heap.size ≤ B) := Nat.le_trans B2.out.size HBS.out
  clear hrg0 hg0 hs0 hown hr HBS
  go_loopw [11, 12] (fun s11 s12 wr => ∃ (left : Lit → Bool) (cnt : Nat) (vs : List Int), Hid (wr.ranges Tryz.prog 3 (plainElem Tryz.prog 22) B r nn Dm left cnt) ∧ Hid (Seen cg n (fun v => left (.int .i64 v)) vs) ∧ s12 = .string (numB (T - (vs.map cg).sum)) ∧ Hid (wr.ownsRow w4.heap.size 40 2 s11 vs.length (massC (pr vs))) ∧ Hid (w4.heap.size ≤ wr.heap.size) ∧ Hid (Below w.heap.size w wr)) (fun s11 s12 wr => wr.rangeLeft B r)
  case atStart => exact ⟨_, _, [], RG, S0, by simp [HST.out], hid (by rw [HP0.out]; exact ⟨rfl, .inl ⟨rfl, rfl⟩⟩), hid (Nat.le_refl _), B4⟩
  case round =>
    clear RG S0 B4
    obtain ⟨left, cnt, vs, hrg, hS, rfl, hO, hW, hBl⟩ := hrel
    obtain ⟨ar, cr, rfl⟩ := owns_ex hO.out
    go_wp2_with (first
      | (at_next; refine wpList_next_ranges_is _ rfl _ rfl 3 22 .i64 (int_keyed Tryz.underlying3) Tryz.underlying3 Tryz.underlying22 B r nn _ _ _ rfl hrg.out ?_ ?_)
      | go_in)
    · intro _ hl0
      have hl1 : ∀ v, (fun v => left (.int .i64 v)) v = false := fun v => hl0 _
      have hrest := HSA.out vs _ hS.out hl1
      obtain ⟨hnd, hsort⟩ := HSP.out vs _ hS.out hl1 gl
      have hvl := HVS.out vs _ hS.out
      have hgT : gl ≤ T := by omega
      rw [hrest]
      have HND := hid hnd; have HSO := hid hsort; have HVL := hid hvl
      have P1 := fun V hV => HMK'.out gl hgT V hV
      obtain ⟨L, hL⟩ : ∃ L, pr vs = L := ⟨_, rfl⟩
      have hLl := HPL.out vs
      rw [hL] at hO HND HSO hLl
      rw [← hLl] at hO hvl ⊢
      have HGT := hid hgT
      have hpos : 0 < (L ++ if gl = 0 then [] else [(lateB, shB gl T)]).length := by
        rw [List.length_append]
        split
        · rename_i h0
          have : vs ≠ [] := fun e => by subst e; simp at hrest; have := HT0.out; omega
          have := List.length_pos_iff.2 this
          simp; omega
        · simp
      have HPOS := hid hpos
      clear hl0 hl1 hrest hnd hsort hS hrg hgT hL hLl hpos HVL
      obtain ⟨sg, hsg⟩ : ∃ s, numB gl = s := ⟨_, rfl⟩
      rw [hsg] at P1 ⊢
      have HSG := hid hsg
      clear hsg
      obtain ⟨tb0, htb⟩ : ∃ b, (sg.toList == [48]) = b := ⟨_, rfl⟩
      go_upto_if 67 with fail
      have HTB := hid htb
      clear htb
      go_cut [11] (fun s11 wx => ∃ k, k = (L ++ if gl = 0 then [] else [(lateB, shB gl T)]).length ∧ wx.ownsRow w4.heap.size 40 2 s11 k (massC (L ++ if gl = 0 then [] else [(lateB, shB gl T)])) ∧ w4.heap.size ≤ wx.heap.size ∧ Below w.heap.size w wx)
      case first =>
        by_cases h0 : gl = 0
        · have e1 : L ++ (if gl = 0 then [] else [(lateB, shB gl T)]) = L := by rw [if_pos h0, List.append_nil]
          have q3 : (sg.toList == [48]) = true := by rw [← HSG.out, h0, numB_zero]; exact lit_zero
          obtain rfl : true = tb0 := by rw [← HTB.out]; exact q3.symm
          have HE1 := hid e1
          clear h0 e1 q3
          go_wp2_with fail
          go_meet
          exact ⟨_, rfl, by rw [HE1.out]; exact hO.out, hW.out, hBl.out⟩
        · have e1 : L ++ (if gl = 0 then [] else [(lateB, shB gl T)]) = L ++ [(lateB, shB gl T)] := by rw [if_neg h0]
          have q3 : (sg.toList == [48]) = false := by rw [← HSG.out]; exact ne_lit (l := [48]) (by rw [← numB_zero]; exact numB_ne h0)
          obtain rfl : false = tb0 := by rw [← HTB.out]; exact q3.symm
          have HE1 := hid e1
          obtain ⟨sh, hsh⟩ : ∃ s, shB gl T = s := ⟨_, rfl⟩
          rw [hsh] at P1
          have HSH := hid hsh
          clear hsh h0 e1 q3
          go_wp2_with fail
          refine (HPW _ (HLy.out.call hBl.out)).out.mono ?_; rintro e w5 ⟨rfl, hb5⟩
          have B5 := hid (bnext hBl.out hb5); have O5 := hid (owns_call hO.out hb5); have W5 := hid (Nat.le_trans hW.out hb5.size)
          clear hb5
          go_wp2_with fail
          refine (P1 _ (HLy.out.call B5.out)).out.mono ?_; rintro e w6 ⟨rfl, hb6⟩
          have B6 := hid (bnext B5.out hb6); have O6 := hid (owns_call O5.out hb6); have W6 := hid (Nat.le_trans W5.out hb6.size)
          clear hb6
          have hw6 := W6.out
          obtain ⟨hr0, hr1, hr2⟩ := Hr.out
          go_wp2_with (at_builtin; refine wpList_append_own _ rfl _ _ 26 rfl w4.heap.size 40 i0 (.agg #[.string ⟨#[]⟩, .string ⟨#[]⟩]) 2 32 Tryz.underlying26 hi hz0 hz1 hz2 rfl (by decide) _ L.length _ rfl (O6.out.alloc _) ⟨w6.heap.size, 0, none⟩ 1 1 [.string ⟨#[108, 97, 116, 101]⟩, .string sh] rfl rfl (cell_two_new w6 (.string ⟨#[108, 97, 116, 101]⟩) (.string sh) 40) (by simp [Value.oneCell']) (by unfold maxLen; omega) (by omega) (by simp; omega) ?_; intro v' w7 hown7 hgrow7 _)
          have O7 := hid hown7
          have B7 : Hid (Below w.heap.size w w7) := B6.out.trans ((Below.refl _ _).alloc (Nat.le_refl _) _ |>.mono (by have := B6.out.size; omega) |>.trans ⟨hgrow7.os, hgrow7.tape, hgrow7.output, hgrow7.size, fun k hk => hgrow7.block k (by have := B6.out.size; simp; omega) (fun e => by have := (O6.out.lt k e.symm).1; omega)⟩)
          have W7 := hid (show w4.heap.size ≤ w7.heap.size by have := hgrow7.size; simp at this; omega)
          clear hown7 hgrow7 hw6 hr0 hr1 hr2
          go_wp2_with fail
          go_meet
          refine ⟨_, rfl, ?_, W7.out, B7.out⟩
          rw [HE1.out, List.length_append, massC_append, HSH.out]
          exact O7.out
      case rest =>
        obtain ⟨k, rfl, hOx, hWx, hBx⟩ := hcut
        have HB := hid hBx; have HW := hid hWx
        obtain ⟨d, hd⟩ : ∃ d, (L ++ if gl = 0 then [] else [(lateB, shB gl T)]) = d := ⟨_, rfl⟩
        rw [hd] at hOx HND HSO HPOS
        have hdl : d.length ≤ 1000 := by rw [← hd, List.length_append]; split <;> simp <;> omega
        rcases hOx.2 with ⟨_, h0⟩ | ⟨g, cap, cur, rfl, hgb, hg, h1, h2, h3, h4⟩
        · have := HPOS.out; omega
        · have hSM := s_SortM 100 g cap w4.heap.size d.toArray wc cur hgb hg (by simpa using h1) h2 h3 (by simpa [massC_length] using h4) (by simpa using hdl) (by simpa using HND.out) (enters_of Tryz.func100 (by kernel_rfl) rfl) (fun x y W => g_order x y W)
          simp only [List.size_toArray] at hSM
          have HSM := hid hSM
          clear hd hdl hSM hOx hWx hBx h1 h2 h3 h4 hg
          go_wp2_with fail
          refine HSM.out.mono ?_; rintro e w8 ⟨rfl, ho8, hb8⟩
          have B8 : Hid (Below w.heap.size w w8) := HB.out.trans (hb8.mono (by have := Hr.out.1; have := Hr.out.2.1; omega))
          have M8 := hid (MRow.of_owns ho8)
          clear ho8 hb8
          go_wp2_with fail
          go_ret2
          refine ⟨⟨_, rfl, ?_⟩, B8.out⟩
          rw [← HSO.out]
          exact M8.out
    · intro x c w5 cnt1 hwx hwc hlx hat hrg1 hlt hg1 hs1 hen
      have hxc : cg x ≠ 0 := by
        have h1 := has_true_of_atKey hat
        rw [HR.out.has] at h1
        simpa using h1
      have hcx : c = numB (cg x) := by
        have h1 := (HR.out.look x hxc (.lit (.string []))).symm.trans (hat (.lit (.string [])))
        simp only [DataW.lit.injEq, Lit.string.injEq] at h1
        exact (ba_ext h1).symm
      subst hcx
      have hS1 := Seen.step (left' := fun v => (fun z => left z && !z.sameKey (.int .i64 x)) (.int .i64 v)) hS.out (x := x) hlx hxc (fun v => by simp only [sameKey_int])
      have hsum := HSL.out _ _ hS1
      have hsum1 : ((vs ++ [x]).map cg).sum = (vs.map cg).sum + cg x := by simp
      rw [hsum1] at hsum
      have hvl := HVS.out _ _ hS1
      rw [List.length_append, List.length_singleton] at hvl
      have hxb := HOUT.out x hxc
      have P1 := fun V hV => HMK'.out (cg x) (HGV.out x) V hV
      have P2 := fun V hV => HSB'.out (T - (vs.map cg).sum) (cg x) (by omega) (by omega) V hV
      have PI := fun V hV => hid (s_ItoaZ V x (by omega) (by omega) hV)
      have HNX : Hid (T - (vs.map cg).sum - cg x = T - ((vs ++ [x]).map cg).sum) := by show _ = _; rw [hsum1]; omega
      have hb5 : Below w.heap.size w w5 := hBl.out.trans ⟨hg1.os, hg1.tape, hg1.output, hg1.size, fun k hk => hg1.block k (by have := hBl.out.size; omega) (fun e => by have := Hr.out.1; injection e with e; omega)⟩
      have hO5 : w5.ownsRow w4.heap.size 40 2 (.slice ar vs.length cr) vs.length (massC (pr vs)) := hO.out.kept hg1 (.inr fun e => by have := (hO.out.lt r e).1; have := Hr.out.2.1; omega)
      have B5 := hid hb5; have O5 := hid hO5; have RG1 := hid hrg1; have HS1 := hid hS1; have HLT := hid hlt; have W5 := hid (show w4.heap.size ≤ w5.heap.size by have := hW.out; omega)
      have HRG := hid hrg.out
      rw [HNX.out] at P2
      obtain ⟨s1, hs1'⟩ : ∃ s, numB (T - (vs.map cg).sum) = s := ⟨_, rfl⟩
      obtain ⟨s2, hs2⟩ : ∃ s, numB (cg x) = s := ⟨_, rfl⟩
      obtain ⟨s3, hs3⟩ : ∃ s, numB (T - ((vs ++ [x]).map cg).sum) = s := ⟨_, rfl⟩
      obtain ⟨s4, hs4⟩ : ∃ s, shB (cg x) T = s := ⟨_, rfl⟩
      obtain ⟨s5, hs5⟩ : ∃ s, zB x = s := ⟨_, rfl⟩
      rw [hs1', hs2, hs3] at P2
      rw [hs2, hs4] at P1
      rw [hs5] at PI
      rw [hs2] at hen hwc
      rw [hs1', hs2]
      have HS3 := hid hs3; have HS4 := hid hs4; have HS5 := hid hs5
      have HVL := hid hvl
      clear hlx hat hrg1 hlt hg1 hs1 hxc hS1 hsum hsum1 hvl hxb hb5 hO5 hs1' hs2 hs3 hs4 hs5 hrg hS hO hW hBl
      go_wp2_with fail
      refine (HPW _ (HLy.out.call B5.out)).out.mono ?_; rintro e w6 ⟨rfl, hb6⟩
      have B6 := hid (bnext B5.out hb6); have O6 := hid (owns_call O5.out hb6); have R6 := hid (RG1.out.kept (row := none) ⟨hb6.os, hb6.tape, hb6.output, hb6.size, fun k hk _ => hb6.block k hk⟩ (by simp) (by simp)); have W6 := hid (Nat.le_trans W5.out hb6.size)
      clear hb6 hen
      go_wp2_with fail
      refine (P1 _ (HLy.out.call B6.out)).out.mono ?_; rintro e w7 ⟨rfl, hb7⟩
      have B7 := hid (bnext B6.out hb7); have O7 := hid (owns_call O6.out hb7); have R7 := hid (R6.out.kept (row := none) ⟨hb7.os, hb7.tape, hb7.output, hb7.size, fun k hk _ => hb7.block k hk⟩ (by simp) (by simp)); have W7 := hid (Nat.le_trans W6.out hb7.size)
      clear hb7
      go_wp2_with fail
      refine (PI _ (HLy.out.call B7.out)).out.mono ?_; rintro e w8 ⟨rfl, hb8⟩
      have B8 := hid (bnext B7.out hb8); have O8 := hid (owns_call O7.out hb8); have R8 := hid (R7.out.kept (row := none) ⟨hb8.os, hb8.tape, hb8.output, hb8.size, fun k hk _ => hb8.block k hk⟩ (by simp) (by simp)); have W8 := hid (Nat.le_trans W7.out hb8.size)
      clear hb8
      have hw8 := W8.out
      obtain ⟨hr0, hr1, hr2⟩ := Hr.out
      have hvl := HVL.out
      go_wp2_with (at_builtin; refine wpList_append_own _ rfl _ _ 26 rfl w4.heap.size 40 i0 (.agg #[.string ⟨#[]⟩, .string ⟨#[]⟩]) 2 32 Tryz.underlying26 hi hz0 hz1 hz2 rfl (by decide) _ vs.length _ rfl (O8.out.alloc _) ⟨w8.heap.size, 0, none⟩ 1 1 [.string s5, .string s4] rfl rfl (cell_two_new w8 (.string s5) (.string s4) 40) (by simp [Value.oneCell']) (by unfold maxLen; omega) (by omega) (by simp; omega) ?_; intro v' w9 hown9 hgrow9 _)
      have O9 := hid hown9
      have B9 : Hid (Below w.heap.size w w9) := B8.out.trans ((Below.refl _ _).alloc (Nat.le_refl _) _ |>.mono (by have := B8.out.size; omega) |>.trans ⟨hgrow9.os, hgrow9.tape, hgrow9.output, hgrow9.size, fun k hk => hgrow9.block k (by have := B8.out.size; simp; omega) (fun e => by have := (O8.out.lt k e.symm).1; omega)⟩)
      have R9 := hid ((R8.out.alloc (.cells #[.string s5, .string s4] 40)).kept hgrow9 (fun e => by have := (O8.out.lt B e.symm).1; omega) (fun e => by have := (O8.out.lt r e.symm).1; omega))
      have W9 := hid (show w4.heap.size ≤ w9.heap.size by have := hgrow9.size; simp at this; omega)
      clear hown9 hgrow9 hw8 hr0 hr1 hr2 hvl
      go_wp2_with fail
      refine (P2 _ (HLy.out.call B9.out)).out.mono ?_; rintro e w10 ⟨rfl, hb10⟩
      have B10 := hid (bnext B9.out hb10); have O10 := hid (owns_call O9.out hb10); have R10 := hid (R9.out.kept (row := none) ⟨hb10.os, hb10.tape, hb10.output, hb10.size, fun k hk _ => hb10.block k hk⟩ (by simp) (by simp)); have W10 := hid (Nat.le_trans W9.out hb10.size)
      clear hb10
      go_wp2_with fail
      go_roundw
      case rel =>
        refine ⟨_, cnt1, vs ++ [x], R10, HS1, by rw [HS3.out], hid ?_, W10, B10⟩
        rw [List.length_append, List.length_singleton, HPR.out, massC_append, HS4.out, HS5.out]
        exact O10.out
      case measure => rw [R10.out.left_eq, HRG.out.left_eq]; exact HLT.out
end Go.Proofs.YtgphopkifomffaaGreatDoor
namespace Go.Proofs.YtgphopkifomffaaGreatDoor
open Go.RowKit
open Go.Lib (decDigits nDigits)
set_option linter.unusedVariables false
set_option linter.unusedSimpArgs false
def glR (a : ByteArray) (n : Int) (two : Bool) : List (ByteArray × ByteArray) := if glE a n 32 = 0 then sortM (glP (gV (bN (cW a)) (bN (qD a)) two n.toNat) (2 ^ n.toNat) n.toNat (gL (bN (cW a)) (bN (qD a)) two n.toNat)) else []
set_option maxRecDepth 100000 in
set_option maxHeartbeats 1000000 in
theorem g_listed (w : World) (a : ByteArray) (n : Int) (two : Bool) (ha : a.size ≤ 100000) (hL : Lay w) :
    Calls Tryz.prog 56 #[.string a, .int .i64 n, .bool two] w fun e w' => (∃ v, e = .returned (.tuple #[v, .int .i64 (glE a n 32)]) ∧ MRow w' v (glR a n two)) ∧ Below w.heap.size w w' := by
  by_cases he : gPE a = 0
  · by_cases hn : n < 0 ∨ 32 < n
    · have e1 : glE a n 32 = 2 := by unfold glE; rw [if_neg (by rw [he]; simp), if_pos hn]
      have e2 : glR a n two = [] := by unfold glR; rw [if_neg (by rw [e1]; decide)]
      rw [e1, e2]
      have HA := hid (g_ratio w a ha hL)
      rw [if_pos he, if_pos he, he] at HA
      obtain ⟨b1, k1⟩ : ∃ b, decide (n < 0) = b := ⟨_, rfl⟩
      obtain ⟨b2, k2⟩ : ∃ b, decide (32 < n) = b := ⟨_, rfl⟩
      have k3 : (b1 || b2) = true := by rw [← k1, ← k2]; simpa using hn
      clear ha hL he hn e1 e2
      cases b1
      · obtain rfl : b2 = true := by simpa using k3
        clear k3
        go_enter Tryz.func56, Tryz.ntmps56
        go_wp2_with fail
        refine HA.out.mono ?_; rintro e w1 ⟨rfl, hb1⟩
        have B1 := hid hb1; clear hb1 HA
        go_wp2_with fail
        go_ret2
        exact ⟨⟨_, rfl, MRow.nil _⟩, B1.out⟩
      · clear k2 k3
        go_enter Tryz.func56, Tryz.ntmps56
        go_wp2_with fail
        refine HA.out.mono ?_; rintro e w1 ⟨rfl, hb1⟩
        have B1 := hid hb1; clear hb1 HA
        go_wp2_with fail
        go_ret2
        exact ⟨⟨_, rfl, MRow.nil _⟩, B1.out⟩
    · obtain ⟨m, rfl⟩ : ∃ m : Nat, n = (m : Nat) := ⟨n.toNat, by omega⟩
      have e1 : glE a (m : Nat) 32 = 0 := by unfold glE; rw [if_neg (by rw [he]; simp), if_neg hn]
      have hND := (gPE_ok he).2
      have := g_listed_ok (H := Unit) w a m _ _ two ha he (by omega) rfl rfl hND hL
      unfold glR
      rw [if_pos e1, e1, Int.toNat_natCast]
      exact this
  · have e1 : glE a n 32 = gPE a := by unfold glE; rw [if_pos he]
    have e2 : glR a n two = [] := by unfold glR; rw [if_neg (by rw [e1]; exact he)]
    rw [e1, e2]
    have HA := hid (g_ratio w a ha hL)
    rw [if_neg he, if_neg he] at HA
    obtain ⟨x, hx⟩ : ∃ x, gPE a = x := ⟨_, rfl⟩
    rw [hx] at HA he ⊢
    have x0 : (x != 0) = true := by simpa using he
    clear ha hL he hx e1 e2
    go_enter Tryz.func56, Tryz.ntmps56
    go_wp2_with fail
    refine HA.out.mono ?_; rintro e w1 ⟨rfl, hb1⟩
    have B1 := hid hb1; clear hb1 HA
    go_wp2_with fail
    go_ret2
    exact ⟨⟨_, rfl, MRow.nil _⟩, B1.out⟩
set_option maxRecDepth 100000 in
set_option maxHeartbeats 1000000 in
theorem g_TwoLaw (w : World) (a : ByteArray) (n : Int) (ha : a.size ≤ 100000) (hL : Lay w) :
    Calls Tryz.prog 25 #[.string a, .int .i64 n] w fun e w' => (∃ v, e = .returned (.tuple #[v, .int .i64 (glE a n 32)]) ∧ MRow w' v (glR a n true)) ∧ Below w.heap.size w w' := by
  have H := hid (g_listed w a n true ha hL)
  obtain ⟨o, ho⟩ : ∃ o, glR a n true = o := ⟨_, rfl⟩
  obtain ⟨x, hx⟩ : ∃ x, glE a n 32 = x := ⟨_, rfl⟩
  rw [ho, hx] at H ⊢
  clear ha hL ho hx
  go_enter Tryz.func25, Tryz.ntmps25
  go_wp2_with fail
  refine H.out.mono ?_; rintro e w1 ⟨⟨v, rfl, hv⟩, hb1⟩
  have B1 := hid hb1; have V1 := hid hv; clear hb1 hv
  go_wp2_with fail
  go_ret2
  exact ⟨⟨_, rfl, V1.out⟩, B1.out⟩
end Go.Proofs.YtgphopkifomffaaGreatDoor
namespace Go.Proofs.YtgphopkifomffaaGreatDoor
open Go.RowKit
open Go.Lib (decDigits nDigits)
set_option linter.unusedVariables false
noncomputable def kz (s : ByteArray) : Option Int := @dite _ (∃ v : Int, s = zB v) (Classical.propDecidable _) (fun h => some (Classical.choose h)) (fun _ => none)
theorem kz_zB (v : Int) : kz (zB v) = some v := by
  unfold kz
  have h : ∃ x : Int, zB v = zB x := ⟨v, rfl⟩
  rw [dif_pos h]
  exact congrArg some (zB_inj (Classical.choose_spec h)).symm
theorem kz_late : kz lateB = none := by
  unfold kz
  rw [dif_neg]
  rintro ⟨v, h⟩
  exact zB_late v (congrArg (fun b : ByteArray => b.data.toList) h.symm)
noncomputable def chS (d : List (ByteArray × ByteArray)) : List Int := d.filterMap fun p => kz p.1
theorem chS_take {d : List (ByteArray × ByteArray)} {i : Nat} {p : ByteArray × ByteArray} (h : d[i]? = some p) : chS (d.take (i + 1)) = chS (d.take i) ++ (kz p.1).toList := by
  unfold chS
  rw [List.take_add_one, h, Option.toList_some, List.filterMap_append]
  congr 1
theorem chS_late {d : List (ByteArray × ByteArray)} {i : Nat} {p : ByteArray × ByteArray} (h : d[i]? = some p) (hp : kz p.1 = none) : chS (d.take (i + 1)) = chS (d.take i) := by
  rw [chS_take h, hp, Option.toList_none, List.append_nil]
theorem chS_num {d : List (ByteArray × ByteArray)} {i : Nat} {p : ByteArray × ByteArray} {v : Int} (h : d[i]? = some p) (hp : kz p.1 = some v) : chS (d.take (i + 1)) = chS (d.take i) ++ [v] := by
  rw [chS_take h, hp]; rfl
theorem chS_length (d : List (ByteArray × ByteArray)) : (chS d).length ≤ d.length := List.length_filterMap_le _ _
theorem chS_glM (g : Int → Nat) (t n : Nat) : (glM g t n).filterMap (fun p => kz p.1) = chA g n := by
  unfold glM chA chV
  rw [List.filterMap_filterMap, List.filter_map, ← List.filterMap_eq_map, ← List.filterMap_eq_filter, List.filterMap_filterMap]
  congr 1
  funext j
  by_cases h : g ((j : Int) - n) = 0
  · simp [h, Option.guard]
  · simp [h, Option.guard, kz_zB]
theorem chS_glP (g : Int → Nat) (t n r : Nat) : (chS (sortM (glP g t n r))).Perm (chA g n) := by
  have h : (sortM (glP g t n r)).Perm (glP g t n r) := List.mergeSort_perm _ _
  refine (h.filterMap fun p => kz p.1).trans ?_
  unfold glP
  rw [List.filterMap_append, chS_glM]
  by_cases hr : r = 0
  · rw [if_pos hr]; simp
  · rw [if_neg hr]
    simp [kz_late]
theorem runs_glP (g : Int → Nat) (t n r : Nat) : Runs g n (chS (sortM (glP g t n r))) := fun f hf => by
  rw [sV_perm (chS_glP g t n r)]
  exact smV_all hf n
theorem chS_mass {g : Int → Nat} {n r : Nat} {p : ByteArray × ByteArray} (h : p ∈ sortM (glP g (2 ^ n) n r)) : (∃ v : Int, -(n : Int) ≤ v ∧ v ≤ n ∧ p.1 = zB v ∧ kz p.1 = some v ∧ p.2 = dyB (g v) n) ∨ (p.1 = lateB ∧ kz p.1 = none) := by
  rw [sortM_mem, glP_mem] at h
  rcases h with ⟨v, h1, h2, -, rfl⟩ | ⟨-, rfl⟩
  · exact .inl ⟨v, h1, h2, rfl, kz_zB v, rfl⟩
  · exact .inr ⟨rfl, kz_late⟩
end Go.Proofs.YtgphopkifomffaaGreatDoor
namespace Go.Proofs.YtgphopkifomffaaGreatDoor
open Go.RowKit Go.Shelf
open Go.Lib (decDigits nDigits)
set_option linter.unusedVariables false
theorem dec_natS (n : Nat) : Lib.decNat (decDigits n) = some n := by
  have hd := allDig_dec n
  have hne : decDigits n ≠ [] := by
    intro e
    have := Lib.decDigits_length n
    rw [e] at this
    have := nd_pos n
    simp at *
    omega
  unfold Lib.decNat
  rw [if_neg (by simpa using hne), decFrom_dv hd, dv_dec, Nat.mul_zero, Nat.zero_add]
theorem atoi_itoa (v : Int) : Lib.atoi (Lib.itoa v) = some v := by
  unfold Lib.itoa
  split
  · rename_i h
    unfold Lib.atoi
    show (if ((45 : UInt8) == 45) = true then Option.map (fun (m : Nat) => -(m : Int)) (Lib.decNat (decDigits v.natAbs)) else _) = _
    rw [if_pos (by decide), dec_natS]
    show some (-(v.natAbs : Int)) = some v
    congr 1; omega
  · rename_i h
    rw [atoi_dec]
    congr 1; omega
theorem b_AtoiZ (w : World) (v : Int) (h1 : -1000 ≤ v) (h2 : v ≤ 1000) :
    Calls Tryz.prog 57 #[.string (zB v)] w fun e w' => e = .returned (.tuple #[.int .i64 v, .nilIface]) ∧ Below w.heap.size w w' := by
  have hs : (zB v).size ≤ 18 := by
    rw [← list_size, zB_list]
    unfold Lib.itoa
    split
    · have hd := nDigits_le (n := v.natAbs) (k := 4) (by omega) (by omega)
      rw [List.length_cons, Lib.decDigits_length]; omega
    · have hd := nDigits_le (n := v.toNat) (k := 4) (by omega) (by omega)
      rw [Lib.decDigits_length]; omega
  refine (Tryz.strconv_Atoi (zB v) v hs (by rw [zB_list]; exact atoi_itoa v) w).mono ?_
  rintro e w' ⟨rfl, t, rfl⟩
  exact ⟨rfl, Go.Joins.below_bytesWorld w.heap.size w 5 t (Nat.le_refl _)⟩
end Go.Proofs.YtgphopkifomffaaGreatDoor
namespace Go.Proofs.YtgphopkifomffaaGreatDoor
open Go.RowKit Go.Shelf
set_option linter.unusedVariables false
set_option linter.unusedSimpArgs false
theorem own_slotK {W : World} {base : Nat} {e : TypeId} {k g n cap : Nat} {xs : List Value} (h : W.ownsRow base e k (.slice (some ⟨g, 0, none⟩) n cap) n xs) : base ≤ g ∧ g < W.heap.size ∧ (∀ i, W.frozen? ⟨g, i, none⟩ = false) ∧ (∀ (i : Nat) (x : Value), xs[i]? = some x → W.cell? ⟨g, i, none⟩ = some x) ∧ cap ≤ 9223372036854775807 ∧ n ≤ cap := by
  have hh := h
  rcases h.2 with ⟨e1, _⟩ | ⟨g', cap', cur, e1, hb, hg, h1, h2, h3, h4⟩
  · simp at e1
  · simp at e1
    obtain ⟨rfl, rfl⟩ := e1
    refine ⟨hb, (Array.getElem?_eq_some_iff.1 hg).1, fun i => Blk.free hg i, fun i x hx => ?_, by unfold maxLen at h2; omega, h1⟩
    have := hh.cells rfl i x hx
    rw [Addr.add_lit, Nat.zero_add] at this
    exact this
end Go.Proofs.YtgphopkifomffaaGreatDoor
namespace Go.Proofs.YtgphopkifomffaaGreatDoor
open Go.RowKit
set_option linter.unusedVariables false
set_option linter.unusedSimpArgs false
theorem owned_below {w W w3 : World} {t : TypeId} {z : Nat} {v : Value} {m : Nat} {vs : List Value} (h : W.ownsRow w.heap.size t z v m vs) (h0 : Below w.heap.size w W) (hg : W.grownBy w3 v.ownBlock) : Below w.heap.size w w3 := by
  refine h0.trans ⟨hg.os, hg.tape, hg.output, hg.size, fun j hj => hg.block j (Nat.lt_of_lt_of_le hj h0.size) fun e => ?_⟩
  have := (h.lt j e.symm).1
  omega
end Go.Proofs.YtgphopkifomffaaGreatDoor
namespace Go.Proofs.YtgphopkifomffaaGreatDoor
open Go.RowKit Go.Shelf
open Go.Lib (decDigits nDigits)
set_option linter.unusedVariables false
set_option linter.unusedSimpArgs false
def cpC (y : Int × ByteArray) : List Value := [.int .i64 y.1, .string y.2]
def cpF (L : List (Int × ByteArray)) : List Value := L.flatMap cpC
theorem cpF_length (L : List (Int × ByteArray)) : (cpF L).length = L.length * 2 := by
  unfold cpF
  induction L with
  | nil => rfl
  | cons p r ih => rw [List.flatMap_cons, List.length_append, ih, List.length_cons]; simp [cpC]; omega
theorem cpF_snoc (L : List (Int × ByteArray)) (y : Int × ByteArray) : cpF (L ++ [y]) = cpF L ++ cpC y := by simp [cpF]
theorem cpF_get {L : List (Int × ByteArray)} : ∀ {i : Nat} {y : Int × ByteArray}, L[i]? = some y → (cpF L)[i * 2]? = some (.int .i64 y.1) ∧ (cpF L)[i * 2 + 1]? = some (.string y.2) := by
  induction L with
  | nil => intro i p h; simp at h
  | cons q r ih =>
    intro i p h
    have hl : (cpC q).length = 2 := rfl
    cases i with
    | zero => simp at h; subst h; exact ⟨rfl, rfl⟩
    | succ i =>
      rw [List.getElem?_cons_succ] at h
      obtain ⟨h1, h2⟩ := ih h
      have e : cpF (q :: r) = cpC q ++ cpF r := rfl
      rw [e]
      refine ⟨?_, ?_⟩
      · rw [List.getElem?_append_right (by omega), hl, show (i + 1) * 2 - 2 = i * 2 by omega]; exact h1
      · rw [List.getElem?_append_right (by omega), hl, show (i + 1) * 2 + 1 - 2 = i * 2 + 1 by omega]; exact h2
structure PRow (w : World) (v : Value) (l : List (Int × ByteArray)) : Prop where
  ex : ∃ a c, v = .slice a l.length c ∧ l.length ≤ c ∧ c ≤ 9223372036854775807 ∧ ∀ (i : Nat) (x : Int × ByteArray), l[i]? = some x → ∃ g o, a = some ⟨g, o, none⟩ ∧ g < w.heap.size ∧ w.cell? ⟨g, o + i * 2, none⟩ = some (.int .i64 x.1) ∧ w.cell? ⟨g, o + i * 2 + 1, none⟩ = some (.string x.2)
theorem PRow.call {w w' : World} {v : Value} {l : List (Int × ByteArray)} (h : PRow w v l) (hb : Below w.heap.size w w') : PRow w' v l := by
  obtain ⟨a, c, rfl, h1, h2, h3⟩ := h.ex
  refine ⟨a, c, rfl, h1, h2, fun i x hx => ?_⟩
  obtain ⟨g, o, rfl, hg, k1, k2⟩ := h3 i x hx
  exact ⟨g, o, rfl, Nat.lt_of_lt_of_le hg hb.size, (hb.cell (p := ⟨g, o + i * 2, none⟩) hg).trans k1, (hb.cell (p := ⟨g, o + i * 2 + 1, none⟩) hg).trans k2⟩
theorem PRow.of_owns {w : World} {base n : Nat} {e : TypeId} {v : Value} {L : List (Int × ByteArray)} (h : w.ownsRow base e 2 v n (cpF L)) : PRow w v L := by
  have hn : n = L.length := by have := h.1; rw [cpF_length] at this; omega
  subst hn
  rcases h.2 with ⟨rfl, h0⟩ | ⟨g, cap, cur, rfl, hb, hg, k1, k2, k3, k4⟩
  · have hl : L = [] := List.length_eq_zero_iff.1 (by omega)
    subst hl
    exact ⟨none, 0, rfl, Nat.le_refl _, by omega, fun i x hx => by simp at hx⟩
  · obtain ⟨o1, o2, o3, o4, o5, o6⟩ := own_slotK h
    refine ⟨some ⟨g, 0, none⟩, cap, rfl, o6, o5, fun i x hx => ?_⟩
    obtain ⟨f1, f2⟩ := cpF_get hx
    refine ⟨g, 0, rfl, o2, ?_, ?_⟩
    · rw [Nat.zero_add]; exact o4 _ _ f1
    · rw [Nat.zero_add]; exact o4 _ _ f2
noncomputable def chT (g : Int → Nat) (n : Nat) (d : List (ByteArray × ByteArray)) (i : Nat) : List (Int × ByteArray) := (chS (d.take i)).map fun v => (v, dyB (g v) n)
theorem chT_late {g : Int → Nat} {n : Nat} {d : List (ByteArray × ByteArray)} {i : Nat} {p : ByteArray × ByteArray} (h : d[i]? = some p) (hp : kz p.1 = none) : chT g n d (i + 1) = chT g n d i := by unfold chT; rw [chS_late h hp]
theorem chT_num {g : Int → Nat} {n : Nat} {d : List (ByteArray × ByteArray)} {i : Nat} {p : ByteArray × ByteArray} {v : Int} (h : d[i]? = some p) (hp : kz p.1 = some v) : chT g n d (i + 1) = chT g n d i ++ [(v, dyB (g v) n)] := by unfold chT; rw [chS_num h hp, List.map_append]; rfl
theorem chT_length (g : Int → Nat) (n : Nat) (d : List (ByteArray × ByteArray)) (i : Nat) : (chT g n d i).length ≤ d.length := by
  unfold chT
  rw [List.length_map]
  refine Nat.le_trans (chS_length _) ?_
  rw [List.length_take]
  omega
end Go.Proofs.YtgphopkifomffaaGreatDoor
namespace Go.Proofs.YtgphopkifomffaaGreatDoor
open Go.RowKit Go.Shelf
open Go.Lib (decDigits nDigits)
set_option linter.unusedVariables false
set_option linter.unusedSimpArgs false
def orZ : List Int → Int
  | [] => 0
  | x :: r => if x ≠ 0 then x else orZ r
theorem orZ_at : ∀ {l : List Int} {i : Nat}, (∀ (j : Nat) (x : Int), j < i → l[j]? = some x → x = 0) → orZ l = orZ (l.drop i)
  | [], i, _ => by simp [orZ]
  | b :: r, 0, _ => rfl
  | b :: r, i + 1, h => by
    have h1 := h 0 b (by omega) rfl
    have h3 := orZ_at (l := r) (i := i) (fun j c hj hc => h (j + 1) c (by omega) (by simpa using hc))
    rw [orZ, if_neg (by simp [h1]), h3]
    rfl
set_option maxRecDepth 100000 in
set_option maxHeartbeats 1000000 in
theorem s_OrE (w : World) (v : Value) (l : List Int) (hv : Row w v (zs l)) :
    Calls Tryz.prog 68 #[v] w fun e w' => e = .returned (.int .i64 (orZ l)) ∧ w = w' := by
  obtain ⟨a, c, rfl, q1, q2, q3⟩ := hv.openZ
  obtain ⟨n, hn⟩ : ∃ n, l.length = n := ⟨_, rfl⟩
  obtain ⟨X, hX⟩ : ∃ X, orZ l = X := ⟨_, rfl⟩
  rw [hn] at q1 ⊢
  rw [hX]
  have HN := hid hn; have Q3 := hid q3; have HX := hid hX
  clear hv q3 hn hX
  go_enter Tryz.func68, Tryz.ntmps68
  go_wp2_with fail
  go_loop [8] (fun ii => ∃ i : Nat, ii = .int .i64 i ∧ i ≤ n ∧ Hid (∀ (j : Nat) (x : Int), j < i → l[j]? = some x → x = 0)) (fun ii => n - (intOf ii).toNat)
  case atStart => exact ⟨0, rfl, Nat.zero_le _, fun j x hj => absurd hj (by omega)⟩
  case round =>
    obtain ⟨i, rfl, hi, hI⟩ := hrel
    by_cases hlt : i < n
    · obtain ⟨x, hx⟩ : ∃ x, l[i]? = some x := ⟨_, List.getElem?_eq_getElem (by rw [HN.out]; exact hlt)⟩
      obtain ⟨g, o, rfl, hg, hc⟩ := Q3.out i x hx
      have hdrop : l.drop i = x :: l.drop (i + 1) := by
        have hil : i < l.length := by rw [HN.out]; exact hlt
        rw [List.drop_eq_getElem_cons hil]
        have := List.getElem?_eq_getElem hil
        rw [hx] at this
        rw [Option.some.inj this]
      have HXX := hid hx; have HD := hid hdrop
      have b1 : (0 : Int) ≤ (i : Int) := by omega
      have b2 : (i : Int) < (n : Int) := by omega
      have wi : IntKind.i64.wrap ((i : Int) + 1) = ((i + 1 : Nat) : Int) := by rw [IntWalk.i64_in _ ⟨by omega, by omega⟩]; omega
      clear hx hdrop
      by_cases hx0 : x = 0
      · have HZ := hid hx0
        have q0 : (x == 0) = true := by rw [beq_iff_eq]; exact hx0
        clear hx0
        go_wp2_with fail
        go_round
        case rel => exact ⟨i + 1, by go_num, by omega, fun j y hj hy => by
          rcases Nat.lt_or_ge j i with h | h
          · exact hI.out j y h hy
          · obtain rfl : j = i := by omega
            rw [HXX.out] at hy; cases hy; exact HZ.out⟩
        case measure => simp [intOf] <;> omega
      · have q0 : (x == 0) = false := by rw [beq_eq_false_iff_ne]; exact hx0
        have HE : Hid (X = x) := by
          show X = x
          rw [← HX.out, orZ_at hI.out, HD.out, orZ, if_pos hx0]
        clear hx0
        go_wp2_with fail
        go_ret
        exact ⟨by rw [HE.out]; rfl, rfl⟩
    · obtain rfl : i = n := by omega
      have HE : Hid (X = 0) := by
        show X = 0
        have hd : l.drop i = [] := List.drop_eq_nil_of_le (by rw [HN.out]; exact Nat.le_refl _)
        rw [← HX.out, orZ_at hI.out, hd]; rfl
      have q0 : decide ((i : Int) < (i : Int)) = false := by simp
      clear hlt
      go_wp2_with fail
      go_ret
      exact ⟨by rw [HE.out]; rfl, rfl⟩
end Go.Proofs.YtgphopkifomffaaGreatDoor
namespace Go.Proofs.YtgphopkifomffaaGreatDoor
open Go.RowKit Go.Shelf
open Go.Lib (decDigits nDigits)
set_option linter.unusedVariables false
set_option linter.unusedSimpArgs false
theorem info_nch : (Tryz.prog.info? 67).map (fun i => (i.zero, i.size, i.bytes)) = some (some (.agg #[.int .i64 0, .string ⟨#[]⟩]), 2, 24) := by kernel_rfl
set_option maxRecDepth 100000 in
set_option maxHeartbeats 8000000 in
theorem na_chances (w : World) (v : Value) (d : List (ByteArray × ByteArray)) (g : Int → Nat) (n : Nat) (hv : MRow w v d) (hM : ∀ p ∈ d, (∃ v : Int, -(n : Int) ≤ v ∧ v ≤ n ∧ p.1 = zB v ∧ kz p.1 = some v ∧ p.2 = dyB (g v) n) ∨ (p.1 = lateB ∧ kz p.1 = none)) (hlen : d.length ≤ 100) (hn : n ≤ 32) (hL : LayB w) :
    Calls Tryz.prog 27 #[v] w fun e w' => (∃ u, e = .returned u ∧ w'.ownsRow w.heap.size 67 2 u (chT g n d d.length).length (cpF (chT g n d d.length))) ∧ Below w.heap.size w w' := by
  obtain ⟨i0, hi, hz0, hz1, hz2⟩ := info_parts info_nch
  obtain ⟨ad, cd, rfl, c1, c2, c3⟩ := hv.ex
  have H3 := hid c3
  have HM := hid hM; have HLN := hid hlen; have HN := hid hn; have HL := hid hL
  obtain ⟨L, hLL⟩ : ∃ L, d.length = L := ⟨_, rfl⟩
  have HLL := hid hLL
  rw [hLL] at c1 ⊢
  clear hv c3 hM hlen hn hL hLL
  go_enter Tryz.func27, Tryz.ntmps27
  go_wp2_with fail
  go_loopw [3, 5, 6, 7, 10] (fun s3 s5 s6 s7 s10 wr => ∃ i : Nat, s10 = .int .i64 (i : Nat) ∧ i ≤ L ∧ Hid (wr.ownsRow w.heap.size 67 2 s3 (chT g n d i).length (cpF (chT g n d i))) ∧ Hid (Below w.heap.size w wr)) (fun s3 s5 s6 s7 s10 wr => L - (intOf s10).toNat)
  case atStart => exact ⟨0, rfl, Nat.zero_le _, World.ownsRow_nil _ _ _ _, Below.refl _ _⟩
  case round =>
    obtain ⟨i, rfl, hi', hO, hB⟩ := hrel
    have hl100 := HLN.out
    by_cases hlt : i < L
    · obtain ⟨q, hq⟩ : ∃ q, d[i]? = some q := ⟨_, List.getElem?_eq_getElem (by rw [HLL.out]; exact hlt)⟩
      obtain ⟨gd, od, rfl, hgd, m1, m2⟩ := H3.out i q hq
      have r1 := (hB.out.cell (p := ⟨gd, od + 2 * i, none⟩) hgd).trans m1
      have r2 := (hB.out.cell (p := ⟨gd, od + 2 * i + 1, none⟩) hgd).trans m2
      rw [Nat.mul_comm 2] at r1 r2
      have f1 : (0 : Int) ≤ (i : Int) := by omega
      have f2 : (i : Int) < (L : Int) := by omega
      have wi : IntKind.i64.wrap ((i : Int) + 1) = ((i + 1 : Nat) : Int) := by rw [HLL.out] at hl100; rw [IntWalk.i64_in _ ⟨by omega, by omega⟩]; omega
      have HLT := hid hlt
      obtain ⟨qk, qv⟩ := q
      dsimp only at r1 r2
      have AM := hid ((Below.refl wr.heap.size wr).alloc (Nat.le_refl _) (.cells #[.string qk, .string qv] 40))
      have XM := hid (Blk.new wr #[.string qk, .string qv] 40)
      have g0 := XM.out.cell 0
      have g1 := XM.out.cell 1
      simp at g0 g1
      rcases HM.out _ (List.mem_of_getElem? hq) with ⟨v, v1, v2, v3, v4, v5⟩ | ⟨v3, v4⟩
      · dsimp only at v3 v4 v5
        have HT := hid (chT_num (g := g) (n := n) hq v4)
        have PA := fun V => hid (b_AtoiZ V v (by have := HN.out; omega) (by have := HN.out; omega))
        rw [← v3] at PA
        have HQV := hid v5
        have HLB := hid (show (chT g n d i).length ≤ 100 from Nat.le_trans (chT_length g n d i) HLN.out)
        clear hq hgd m1 m2 hlt hi' hl100 v1 v2 v3 v4 v5
        go_wp2_with fail
        refine (PA _).out.mono ?_; rintro e w2 ⟨rfl, hb2⟩
        have x2 := hid (bnext AM.out hb2)
        have XM2 := hid (XM.out.call hb2)
        have k1 := XM2.out.cell 1
        simp at k1
        have HO2 := hid (owns_call hO.out x2.out)
        have HB2 := hid (bnext hB.out x2.out)
        clear hb2 g0 g1 r1 r2
        go_wp2_with (at_builtin; refine wpList_append_own _ rfl _ _ 63 rfl w.heap.size 67 i0 (.agg #[.int .i64 0, .string ⟨#[]⟩]) 2 24 Tryz.underlying63 hi hz0 hz1 hz2 rfl (by decide) _ (chT g n d i).length _ rfl (HO2.out.alloc _) ⟨w2.heap.size, 0, none⟩ 1 1 [.int .i64 v, .string qv] rfl rfl (cell_two_new w2 (.int .i64 v) (.string qv) 67) (by simp [Value.oneCell']) (by have := HLB.out; unfold maxLen; omega) (by have := HLB.out; omega) (by have := HB2.out.size; simp; omega) ?_
                     intro v' w3 hown hgrow _
                     have B3 := hid (owned_below (HO2.out.alloc _) (HB2.out.alloc HB2.out.size (.cells #[.int .i64 v, .string qv] 67)) hgrow)
                     have O3 := hid hown
                     clear hown hgrow)
        go_roundw
        case rel => exact ⟨i + 1, by go_num, by have := HLT.out; omega, by rw [HT.out, cpF_snoc, List.length_append, ← HQV.out]; exact O3.out, B3⟩
        case measure => simp [intOf] <;> (have := HLT.out; omega)
      · dsimp only at v3 v4
        subst v3
        have HT := hid (chT_late (g := g) (n := n) hq v4)
        have PA := fun V hV => hid (b_AtoiL V hV)
        clear hq hgd m1 m2 hlt hi' hl100 v4
        obtain ⟨lt, hlt⟩ : ∃ s, lateB = s := ⟨_, rfl⟩
        rw [hlt] at PA r1 AM XM
        go_wp2_with fail
        refine (PA _ (HL.out.call (bnext hB.out AM.out)).s).out.mono ?_; rintro e w2 ⟨⟨te, pe, rfl⟩, hb2⟩
        have x2 := hid (bnext AM.out hb2)
        clear hb2 g0 g1 r1 r2
        go_wp2_with fail
        go_roundw
        case rel => exact ⟨i + 1, by go_num, by have := HLT.out; omega, by rw [HT.out]; exact owns_call hO.out x2.out, bnext hB.out x2.out⟩
        case measure => simp [intOf] <;> (have := HLT.out; omega)
    · obtain rfl : i = L := by omega
      clear hlt hi' hl100
      go_wp2_with fail
      go_ret
      exact ⟨⟨_, rfl, hO.out⟩, hB.out⟩
set_option maxRecDepth 100000 in
set_option maxHeartbeats 4000000 in
theorem na_many (w : World) (N m : Nat) (h1 : 1 ≤ N) (h2 : N ≤ 1000) (h3 : m ≤ 1000) :
    Calls Tryz.prog 26 #[.int .i64 (N : Nat), .int .i64 (m : Nat)] w fun e w' => e = .returned (.bool (decide (5000 < N ^ m))) ∧ w = w' := by
  obtain ⟨X, hX⟩ : ∃ X, decide (5000 < N ^ m) = X := ⟨_, rfl⟩
  have HX := hid hX; have H1 := hid h1; have H2 := hid h2; have H3 := hid h3
  rw [hX]
  clear hX h1 h2 h3
  go_enter Tryz.func26, Tryz.ntmps26
  go_wp2_with fail
  go_loop [5, 7] (fun kk ii => ∃ i k : Nat, ii = .int .i64 (i : Nat) ∧ kk = .int .i64 (k : Nat) ∧ i ≤ m ∧ k ≤ 5000 ∧ Hid (k = N ^ i)) (fun kk ii => m - (intOf ii).toNat)
  case atStart => exact ⟨0, 1, rfl, rfl, Nat.zero_le _, by omega, (Nat.pow_zero N).symm⟩
  case round =>
    obtain ⟨i, k, rfl, rfl, hi, hk, hK⟩ := hrel
    have h2 := H2.out; have h3 := H3.out
    by_cases hlt : i < m
    · obtain ⟨q, hq⟩ : ∃ q, k * N = q := ⟨_, rfl⟩
      have hq5 : q ≤ 5000000 := by rw [← hq]; exact Nat.le_trans (Nat.mul_le_mul hk h2) (by omega)
      have wq : IntKind.i64.wrap ((k : Int) * (N : Int)) = (q : Int) := by
        rw [← Int.natCast_mul, hq, IntWalk.i64_in _ ⟨by omega, by omega⟩]
      have wi : IntKind.i64.wrap ((i : Int) + 1) = ((i + 1 : Nat) : Int) := by rw [IntWalk.i64_in _ ⟨by omega, by omega⟩]; omega
      have b2 : (i : Int) < (m : Int) := by omega
      have HQ : Hid (q = N ^ (i + 1)) := by show q = _; rw [Nat.pow_succ, ← hK.out, hq]
      have hle : N ^ (i + 1) ≤ N ^ m := Nat.pow_le_pow_right H1.out hlt
      have HLE := hid hle; have HLT := hid hlt
      clear hq hle hlt hi hk hK h2 h3
      by_cases hb : 5000 < q
      · have HE : Hid (X = true) := by show X = true; rw [← HX.out]; exact decide_eq_true (by have := HQ.out; have := HLE.out; omega)
        have t1 : (5000 : Int) < (q : Int) := by omega
        clear hb hq5
        go_wp2_with fail
        go_ret
        exact ⟨by rw [HE.out]; rfl, rfl⟩
      · have t1 : ¬ (5000 : Int) < (q : Int) := by omega
        have HB := hid hb
        by_cases hn : N = 1
        · have HE : Hid (X = false) := by show X = false; rw [← HX.out, hn, Nat.one_pow]; rfl
          have t2 : ((N : Int) == 1) = true := by rw [beq_iff_eq]; omega
          clear hb hq5 hn
          go_wp2_with fail
          go_ret
          exact ⟨by rw [HE.out]; rfl, rfl⟩
        · have t2 : ((N : Int) == 1) = false := by rw [beq_eq_false_iff_ne]; omega
          clear hb hq5 hn
          go_wp2_with fail
          go_round
          case rel => exact ⟨i + 1, q, rfl, rfl, by have := HLT.out; omega, by have := HB.out; omega, HQ⟩
          case measure => simp [intOf] <;> (have := HLT.out; omega)
    · obtain rfl : i = m := by omega
      have HE : Hid (X = false) := by show X = false; rw [← HX.out]; exact decide_eq_false (by rw [← hK.out]; omega)
      clear hlt hi hk hK h2 h3
      go_wp2_with fail
      go_ret
      exact ⟨by rw [HE.out]; rfl, rfl⟩
theorem row_three (w : World) (p q r : Int) (t : TypeId) : Row (w.alloc (.cells #[.int .i64 p, .int .i64 q, .int .i64 r] t)) (.slice (some ⟨w.heap.size, 0, none⟩) 3 3) (zs [p, q, r]) := by
  refine Row.of_blk (n := 3) (xs := zs [p, q, r]) (Blk.new w #[.int .i64 p, .int .i64 q, .int .i64 r] t) rfl (by decide) (fun i x hx => ?_) (Nat.le_refl _) (by decide)
  match i, hx with
  | 0, hx => exact hx
  | 1, hx => exact hx
  | 2, hx => exact hx
  | i + 3, hx => simp [zs] at hx
theorem na_first (w : World) (v : Value) (l : List Int) (hv : Row w v (zs l)) :
    Calls Tryz.prog 35 #[v] w fun e w' => e = .returned (.int .i64 (orZ l)) ∧ w = w' := by
  have H := hid (s_OrE w v l hv)
  obtain ⟨a, c, rfl, -⟩ := hv.openZ
  clear hv
  go_enter Tryz.func35, Tryz.ntmps35
  go_wp2_with fail
  refine H.out.mono ?_; rintro e w1 ⟨rfl, rfl⟩
  go_wp2_with fail
  go_ret
  exact ⟨rfl, rfl⟩
end Go.Proofs.YtgphopkifomffaaGreatDoor
namespace Go.Proofs.YtgphopkifomffaaGreatDoor
open Go.RowKit
open Go.Lib (decDigits nDigits)
set_option linter.unusedVariables false
set_option linter.unusedSimpArgs false
def spB : ByteArray := ⟨#[32]⟩
def jnF (p : ByteArray) : List Int → ByteArray
  | [] => p
  | x :: r => jnF ((p ++ spB) ++ zB x) r
def jn : List Int → ByteArray
  | [] => ⟨#[]⟩
  | x :: r => jnF (zB x) r
def jnS (l : List Int) : ByteArray := if l = [] then ⟨#[]⟩ else jn l ++ spB
theorem jnF_snoc (p : ByteArray) (l : List Int) (x : Int) : jnF p (l ++ [x]) = (jnF p l ++ spB) ++ zB x := by
  induction l generalizing p with
  | nil => rfl
  | cons y r ih => exact ih _
theorem jn_snoc (l : List Int) (x : Int) : jn (l ++ [x]) = jnS l ++ zB x := by
  cases l with
  | nil => refine ba_ext ?_; simp [jn, jnS, jnF]
  | cons y r => unfold jnS; rw [if_neg (by simp)]; exact jnF_snoc _ _ _
def jl : List Int → List UInt8
  | [] => []
  | x :: r => 32 :: (Lib.itoa x ++ jl r)
theorem jnF_list (p : ByteArray) (l : List Int) : (jnF p l).data.toList = p.data.toList ++ jl l := by
  induction l generalizing p with
  | nil => simp [jnF, jl]
  | cons x r ih =>
    rw [jnF, ih, jl]
    simp [spB, zB_list]
theorem jn_list (x : Int) (r : List Int) : (jn (x :: r)).data.toList = Lib.itoa x ++ jl r := by
  rw [jn, jnF_list, zB_list]
theorem itoa_byte {x : Int} {b : UInt8} (h : b ∈ Lib.itoa x) : b = 45 ∨ b ∈ decDigits x.natAbs := by
  unfold Lib.itoa at h
  split at h
  · rcases List.mem_cons.1 h with h | h
    · exact .inl h
    · exact .inr h
  · exact .inr (by rwa [show x.natAbs = x.toNat by omega])
theorem itoa_no {x : Int} {b : UInt8} (h1 : b ≠ 45) (h2 : ∀ n, b ∉ decDigits n) : b ∉ Lib.itoa x := fun h => by
  rcases itoa_byte h with h | h
  · exact h1 h
  · exact h2 _ h
theorem itoa_sp (x : Int) : (32 : UInt8) ∉ Lib.itoa x := itoa_no (by decide) fun n h => absurd (allDig_dec n 32 h) (by decide)
theorem itoa_l (x : Int) : (108 : UInt8) ∉ Lib.itoa x := itoa_no (by decide) fun n h => absurd (allDig_dec n 108 h) (by decide)
theorem sp_cut : ∀ {a b r s : List UInt8}, (32 : UInt8) ∉ a → (32 : UInt8) ∉ b → (r = [] ∨ ∃ r', r = 32 :: r') → (s = [] ∨ ∃ s', s = 32 :: s') → a ++ r = b ++ s → a = b ∧ r = s
  | [], [], _, _, _, _, _, _, h => ⟨rfl, h⟩
  | [], y :: b, r, s, _, hb, hr, _, h => by
    exfalso
    rcases hr with rfl | ⟨r', rfl⟩
    · cases h
    · exact hb (List.mem_cons.2 (.inl (List.cons.inj h).1))
  | x :: a, [], r, s, ha, _, _, hs, h => by
    exfalso
    rcases hs with rfl | ⟨s', rfl⟩
    · cases h
    · exact ha (List.mem_cons.2 (.inl (List.cons.inj h).1.symm))
  | x :: a, y :: b, r, s, ha, hb, hr, hs, h => by
    obtain ⟨h1, h2⟩ := List.cons.inj h
    obtain ⟨e1, e2⟩ := sp_cut (fun m => ha (List.mem_cons_of_mem _ m)) (fun m => hb (List.mem_cons_of_mem _ m)) hr hs h2
    exact ⟨by rw [h1, e1], e2⟩
theorem jl_head (l : List Int) : jl l = [] ∨ ∃ r, jl l = 32 :: r := by
  cases l with
  | nil => exact .inl rfl
  | cons x r => exact .inr ⟨_, rfl⟩
theorem itoa_inj {x y : Int} (h : Lib.itoa x = Lib.itoa y) : x = y := zB_inj (by unfold zB; rw [h])
theorem jl_inj : ∀ {l m : List Int}, jl l = jl m → l = m
  | [], [], _ => rfl
  | [], _ :: _, h => by cases h
  | _ :: _, [], h => by cases h
  | x :: r, y :: s, h => by
    obtain ⟨e1, e2⟩ := sp_cut (itoa_sp x) (itoa_sp y) (jl_head r) (jl_head s) (List.cons.inj h).2
    rw [itoa_inj e1, jl_inj e2]
theorem itoa_ne (x : Int) : Lib.itoa x ≠ [] := fun h => by
  have h1 : zB x = zB x := rfl
  unfold Lib.itoa at h
  split at h
  · cases h
  · exact dec_ne_nil x.toNat h
theorem jn_inj {l m : List Int} (h : jn l = jn m) : l = m := by
  have h : (jn l).data.toList = _ := congrArg (fun b : ByteArray => b.data.toList) h
  cases l with
  | nil =>
    cases m with
    | nil => rfl
    | cons y s =>
      rw [jn_list] at h
      have := (List.append_eq_nil_iff.1 h.symm).1
      exact absurd this (itoa_ne y)
  | cons x r =>
    cases m with
    | nil =>
      rw [jn_list] at h
      have := (List.append_eq_nil_iff.1 h).1
      exact absurd this (itoa_ne x)
    | cons y s =>
      rw [jn_list, jn_list] at h
      obtain ⟨e1, e2⟩ := sp_cut (itoa_sp x) (itoa_sp y) (jl_head r) (jl_head s) h
      rw [itoa_inj e1, jl_inj e2]
theorem jl_l : ∀ l : List Int, (108 : UInt8) ∉ jl l
  | [] => by simp [jl]
  | x :: r => by
    rw [jl]
    intro h
    rcases List.mem_cons.1 h with h | h
    · exact absurd h (by decide)
    · rcases List.mem_append.1 h with h | h
      · exact itoa_l x h
      · exact jl_l r h
theorem jn_late (l : List Int) : jn l ≠ lateB := fun h => by
  have h : (jn l).data.toList = _ := congrArg (fun b : ByteArray => b.data.toList) h
  have hm : (108 : UInt8) ∈ lateB.data.toList := by decide
  rw [← h] at hm
  cases l with
  | nil => simp [jn] at hm
  | cons x r =>
    rw [jn_list] at hm
    rcases List.mem_append.1 hm with h | h
    · exact itoa_l x h
    · exact jl_l r h
def nzX (g : Int → Nat) (vs : List Int) : List Int → List Int → Nat → List (List Int × Nat)
  | [], dn, x => [(dn, x)]
  | c :: cs, dn, x => vs.flatMap fun v => nzX g vs cs (dn ++ [c + v]) (x * g v)
def wN (g : Int → Nat) : List Int → List Int → Nat
  | [], [] => 1
  | c :: cs, y :: ys => g (y - c) * wN g cs ys
  | _, _ => 0
theorem nzX_mem {g : Int → Nat} {vs : List Int} (hv : ∀ v, v ∈ vs ↔ g v ≠ 0) : ∀ {c dn : List Int} {x : Nat} {p : List Int × Nat}, p ∈ nzX g vs c dn x ↔ ∃ ys, wN g c ys ≠ 0 ∧ p = (dn ++ ys, x * wN g c ys)
  | [], dn, x, p => by
    rw [nzX, List.mem_singleton]
    constructor
    · rintro rfl; exact ⟨[], by simp [wN], by simp [wN]⟩
    · rintro ⟨ys, h1, rfl⟩
      cases ys with
      | nil => simp [wN]
      | cons y ys => exact absurd rfl h1
  | c :: cs, dn, x, p => by
    rw [nzX, List.mem_flatMap]
    constructor
    · rintro ⟨v, h1, h2⟩
      obtain ⟨ys, h3, rfl⟩ := (nzX_mem hv).1 h2
      refine ⟨(c + v) :: ys, ?_, ?_⟩
      · rw [wN, show c + v - c = v by omega]
        exact Nat.mul_ne_zero ((hv v).1 h1) h3
      · rw [wN, show c + v - c = v by omega, Nat.mul_assoc]; simp
    · rintro ⟨ys, h1, rfl⟩
      cases ys with
      | nil => exact absurd rfl h1
      | cons y ys =>
        rw [wN] at h1
        refine ⟨y - c, (hv _).2 (Nat.ne_zero_of_mul_ne_zero_left h1), (nzX_mem hv).2 ⟨ys, Nat.ne_zero_of_mul_ne_zero_right h1, ?_⟩⟩
        rw [wN, show c + (y - c) = y by omega, Nat.mul_assoc]; simp
theorem nzX_fst {g : Int → Nat} {vs : List Int} : ∀ {c dn : List Int} {x : Nat} {p : List Int × Nat}, p ∈ nzX g vs c dn x → ∃ ys, p.1 = dn ++ ys
  | [], dn, x, p, h => by
    rw [nzX, List.mem_singleton] at h
    subst h
    exact ⟨[], by simp⟩
  | c :: cs, dn, x, p, h => by
    rw [nzX, List.mem_flatMap] at h
    obtain ⟨v, -, h2⟩ := h
    obtain ⟨ys, e⟩ := nzX_fst h2
    exact ⟨(c + v) :: ys, by rw [e]; simp⟩
theorem nzX_nd {g : Int → Nat} {vs : List Int} (nd : vs.Nodup) : ∀ (c dn : List Int) (x : Nat), (nzX g vs c dn x).Pairwise (fun p q => p.1 ≠ q.1)
  | [], dn, x => by simp [nzX]
  | c :: cs, dn, x => by
    rw [nzX, List.pairwise_flatMap]
    refine ⟨fun v _ => nzX_nd nd cs _ _, ?_⟩
    refine List.Pairwise.imp ?_ nd
    intro v w hvw p hp q hq e
    obtain ⟨ys, e1⟩ := nzX_fst hp
    obtain ⟨zs, e2⟩ := nzX_fst hq
    rw [e1, e2, List.append_assoc, List.append_assoc] at e
    have := List.append_cancel_left e
    simp at this
    exact hvw this.1
theorem nzX_len (g : Int → Nat) (vs : List Int) : ∀ (c dn : List Int) (x : Nat), (nzX g vs c dn x).length = vs.length ^ c.length
  | [], dn, x => rfl
  | c :: cs, dn, x => by
    rw [nzX, List.length_flatMap, List.map_congr_left (g := fun _ => vs.length ^ cs.length) (fun v _ => nzX_len g vs cs _ _), List.length_cons, Nat.pow_succ, Nat.mul_comm, List.map_const', List.sum_replicate_nat]
end Go.Proofs.YtgphopkifomffaaGreatDoor
namespace Go.Proofs.YtgphopkifomffaaGreatDoor
open Go.RowKit
open Go.Lib (decDigits nDigits)
set_option linter.unusedVariables false
set_option linter.unusedSimpArgs false
def zD (c d : List Int) : List Int := List.zipWith (· - ·) c d
theorem zS_term {g : Int → Nat} {n : Nat} (hg : ∀ v : Int, v < -(n : Int) ∨ (n : Int) < v → g v = 0) (v : Int) : g v ≤ zS n g := by
  by_cases h : v < -(n : Int) ∨ (n : Int) < v
  · rw [hg v h]; exact Nat.zero_le _
  · rw [← zS_pick (n := n) (x := v) (by omega) (by omega) (g v)]
    refine zS_le fun u _ _ => ?_
    split
    · rename_i e; rw [e]; exact Nat.le_refl _
    · exact Nat.zero_le _
section
variable {g : Int → Nat} {n : Nat} (hg : ∀ v : Int, v < -(n : Int) ∨ (n : Int) < v → g v = 0) (hz : zS n g ≤ 2 ^ n)
def nzR (g : Int → Nat) (n K : Nat) : Nat := 2 ^ (n * K) - zS n g ^ K
def nzM (M : Nat) (p : List Int × Nat) : ByteArray × ByteArray := (jn p.1, dyB p.2 M)
def nyP (g : Int → Nat) (vs : List Int) (n : Nat) (c : List Int) : List (ByteArray × ByteArray) := (nzX g vs c [] 1).map (nzM (n * c.length)) ++ if nzR g n c.length = 0 then [] else [(lateB, dyB (nzR g n c.length) (n * c.length))]
theorem nzR_le (g : Int → Nat) (n K : Nat) : nzR g n K ≤ 2 ^ (n * K) := Nat.sub_le _ _
theorem chA_mem (hg : ∀ v : Int, v < -(n : Int) ∨ (n : Int) < v → g v = 0) (v : Int) : v ∈ chA g n ↔ g v ≠ 0 := by
  constructor
  · exact fun h => (chA_g h).2.2
  · intro h
    have hb : ¬(v < -(n : Int) ∨ (n : Int) < v) := fun hh => h (hg v hh)
    exact chV_mem.2 ⟨(v + n).toNat, by omega, by omega, h⟩
theorem chA_nd (g : Int → Nat) (n : Nat) : (chA g n).Nodup := by
  unfold chA chV
  refine List.Pairwise.filter _ ?_
  rw [List.pairwise_map]
  refine List.Pairwise.imp ?_ List.nodup_range
  intro a b h e
  exact h (by omega)
theorem nyP_mem {vs : List Int} (hv : ∀ v, v ∈ vs ↔ g v ≠ 0) {c : List Int} {p : ByteArray × ByteArray} : p ∈ nyP g vs n c ↔ (∃ ys, wN g c ys ≠ 0 ∧ p = (jn ys, dyB (wN g c ys) (n * c.length))) ∨ (nzR g n c.length ≠ 0 ∧ p = (lateB, dyB (nzR g n c.length) (n * c.length))) := by
  unfold nyP
  rw [List.mem_append, List.mem_map]
  refine or_congr ?_ ?_
  · constructor
    · rintro ⟨q, hq, rfl⟩
      obtain ⟨ys, h1, rfl⟩ := (nzX_mem hv).1 hq
      exact ⟨ys, h1, by simp [nzM]⟩
    · rintro ⟨ys, h1, rfl⟩
      exact ⟨(ys, wN g c ys), (nzX_mem hv).2 ⟨ys, h1, by simp⟩, rfl⟩
  · split
    · rename_i h; simp [h]
    · rename_i h; simp [h]
theorem nyP_nd {vs : List Int} (nd : vs.Nodup) (c : List Int) : ((nyP g vs n c).map keyL).Nodup := by
  have h1 : (((nzX g vs c [] 1).map (nzM (n * c.length))).map keyL).Nodup := by
    rw [List.map_map]
    show List.Pairwise _ _
    rw [List.pairwise_map]
    refine List.Pairwise.imp ?_ (nzX_nd nd c [] 1)
    intro p q h e
    exact h (jn_inj (ba_ext e))
  unfold nyP
  split
  · rw [List.append_nil]; exact h1
  · rw [List.map_append, List.nodup_append]
    refine ⟨h1, by simp, ?_⟩
    intro a ha b hb e
    rw [List.mem_map] at ha
    obtain ⟨p, hp, rfl⟩ := ha
    obtain ⟨q, -, rfl⟩ := List.mem_map.1 hp
    simp at hb
    subst hb
    exact jn_late _ (ba_ext e)
include hg
theorem nyP_same {vs : List Int} (hp : vs.Perm (chA g n)) (c : List Int) : sortM (nyP g vs n c) = sortM (nyP g (chA g n) n c) :=
  sortM_same (nyP_nd (hp.nodup_iff.2 (chA_nd g n)) c) (nyP_nd (chA_nd g n) c) fun p => by
    rw [nyP_mem fun v => (hp.mem_iff).trans (chA_mem hg v), nyP_mem (chA_mem hg)]
omit hg in
include hz
end
end Go.Proofs.YtgphopkifomffaaGreatDoor
namespace Go.Proofs.YtgphopkifomffaaGreatDoor
open Go.RowKit
open Go.Lib (decDigits nDigits)
set_option linter.unusedVariables false
def chk (n : Nat) : Nat → List UInt8 → List (List UInt8)
  | 0, _ => []
  | L + 1, l => l.take n :: chk n L (l.drop n)
theorem chk_length (n : Nat) : ∀ (L : Nat) (l : List UInt8), (chk n L l).length = L
  | 0, _ => rfl
  | L + 1, l => by rw [chk, List.length_cons, chk_length n L]
theorem chk_bits {n : Nat} : ∀ {L : Nat} {l : List UInt8}, l.length = n * L → (∀ b ∈ l, b = 48 ∨ b = 49) → ∀ x ∈ chk n L l, x.length = n ∧ ∀ b ∈ x, b = 48 ∨ b = 49
  | 0, _, _, _, x, hx => by simp [chk] at hx
  | L + 1, l, hl, hb, x, hx => by
    rw [Nat.mul_add, Nat.mul_one] at hl
    rcases List.mem_cons.1 hx with rfl | hx
    · exact ⟨by rw [List.length_take]; omega, fun b h => hb b (List.mem_of_mem_take h)⟩
    · exact chk_bits (by rw [List.length_drop]; omega) (fun b h => hb b (List.mem_of_mem_drop h)) x hx
theorem chkE_tb {x : List UInt8} (hb : ∀ b ∈ x, b = 48 ∨ b = 49) (hx : x.length ≤ 256) : chkE (tb x) = 0 := by
  have h1 : bitB (tb x) = true := by
    unfold bitB
    rw [List.all_eq_true]
    intro b h
    have : b ∈ x := by simpa [tb] using h
    rcases hb b this with rfl | rfl <;> rfl
  have h2 : (tb x).size = x.length := by simp [tb, ByteArray.size]
  unfold chkE
  rw [if_pos h1, if_neg (by omega)]
theorem nzO_chunks {a : ByteArray} (two : Bool) (he : gPE a = 0) {n : Nat} (hn : n ≤ 256) : ∀ (c : List Int) (l : List UInt8), l.length = n * c.length → (∀ b ∈ l, b = 48 ∨ b = 49) →
    nzO two a c ((chk n c.length l).map tb) = (vals n (List.replicate c.length (valT (bN (cW a)) (bN (qD a)) two)) l).map (nzV c)
  | [], l, _, _ => rfl
  | c :: cs, l, hl, hb => by
    rw [List.length_cons, Nat.mul_add, Nat.mul_one] at hl
    have hb1 : ∀ b ∈ l.take n, b = 48 ∨ b = 49 := fun b h => hb b (List.mem_of_mem_take h)
    have e1 := nz1_val (a := a) (b := tb (l.take n)) two he (chkE_tb hb1 (by rw [List.length_take]; omega)) c
    have et : (tb (l.take n)).data.toList = l.take n := by simp [tb]
    rw [et] at e1
    rw [List.length_cons, chk, List.map_cons, nzO, e1, nzO_chunks two he hn cs (l.drop n) (by rw [List.length_drop]; omega) (fun b h => hb b (List.mem_of_mem_drop h)), List.replicate_succ, vals]
    cases valT (bN (cW a)) (bN (qD a)) two (l.take n) with
    | none => rfl
    | some x =>
      cases vals n (List.replicate cs.length (valT (bN (cW a)) (bN (qD a)) two)) (l.drop n) with
      | none => rfl
      | some r => rfl
end Go.Proofs.YtgphopkifomffaaGreatDoor
namespace Go.Proofs.YtgphopkifomffaaGreatDoor
open Go.RowKit
open Go.Lib (decDigits nDigits)
set_option linter.unusedVariables false
set_option linter.unusedSimpArgs false
def fUnder (A : Rat) : Rat := 1 / (1 + A)
end Go.Proofs.YtgphopkifomffaaGreatDoor
namespace Go.Proofs.YtgphopkifomffaaGreatDoor
open Go.RowKit Go.Shelf
open Go.Lib (decDigits nDigits)
set_option linter.unusedVariables false
set_option linter.unusedSimpArgs false
def TT (A : Rat) (k : Int) : Rat := if k < 1 then 1 - fUnder A * A ^ (1 - k).toNat else fUnder A * A ^ k.toNat
end Go.Proofs.YtgphopkifomffaaGreatDoor
namespace Go.Proofs.YtgphopkifomffaaGreatDoor
open Go.RowKit
set_option linter.unusedVariables false
set_option linter.unusedSimpArgs false
def p3 (N D n i k s : Nat) (v : Int) : Nat := if (k : Int) - (i : Int) = v then sumN (fun s' => edn N D k s' * cw (n - s') (oneP N D i)) s else 0
def q3 (N D n i k : Nat) (v : Int) : Nat := sumN (fun k' => p3 N D n i k' (n + 1) v) k
def t3 (N D n i : Nat) (v : Int) : Nat := sumN (fun i' => q3 N D n i' (n + 1) v) i
def c3 (N D n i k s : Nat) (v : Int) : Nat := t3 N D n i v + q3 N D n i k v + p3 N D n i k s v
end Go.Proofs.YtgphopkifomffaaGreatDoor
namespace Go.Proofs.YtgphopkifomffaaGreatDoor
open Go.RowKit
open Go.Lib (decDigits nDigits)
set_option linter.unusedVariables false
set_option linter.unusedSectionVars false
set_option linter.unusedSimpArgs false
section
variable {N D : Nat} (h : N < D)
include h
def o3 (N D n i j : Nat) : Nat := if n ≤ j ∧ j < n + i then gV N D false n ((j : Int) - n) else 0
omit h in
end
end Go.Proofs.YtgphopkifomffaaGreatDoor
namespace Go.Proofs.YtgphopkifomffaaGreatDoor
open Go.RowKit Go.Shelf
open Go.Lib (decDigits nDigits)
set_option linter.unusedVariables false
set_option linter.unusedSimpArgs false
theorem own_block {W : World} {base : Nat} {e : TypeId} {k : Nat} {v : Value} {n : Nat} {xs : List Value} (h : W.ownsRow base e k v n xs) : ∀ r, v.ownBlock = some r → ∃ cur, W.heap[r]? = some (.cells cur e (0, 0)) := by
  intro r hr
  rcases h.2 with ⟨rfl, _⟩ | ⟨g, cap, cur, rfl, _, hg, _⟩
  · simp [Value.ownBlock] at hr
  · simp only [Value.ownBlock, Option.some.injEq] at hr
    subst hr
    exact ⟨_, hg⟩
end Go.Proofs.YtgphopkifomffaaGreatDoor
namespace Go.Proofs.YtgphopkifomffaaGreatDoor
open Go.RowKit Go.Shelf
set_option linter.unusedVariables false
set_option linter.unusedSimpArgs false
theorem ownsRow_keep {w w' : World} {base : Nat} {e : TypeId} {size : Nat} {v : Value} {n : Nat} {xs : List Value} (h : w.ownsRow base e size v n xs) (hb : ∀ g, v.ownBlock = some g → w'.heap[g]? = w.heap[g]?) : w'.ownsRow base e size v n xs := by
  refine ⟨h.1, ?_⟩
  rcases h.2 with h0 | ⟨g, cap, cur, rfl, h1, h2, h3⟩
  · exact .inl h0
  · exact .inr ⟨g, cap, cur, rfl, h1, (hb g rfl).trans h2, h3⟩
theorem news_blk {W : World} {g : Nat} {x : Value} {t : TypeId} (h : Blk W g #[x] t) : ∀ j u, [x][j]? = some u → W.cell? ((⟨g, 0, none⟩ : Addr).add j) = some u := fun j u hj => by
  match j, hj with
  | 0, hj =>
    simp at hj
    subst hj
    rw [Addr.add_lit]
    exact h.cell 0
end Go.Proofs.YtgphopkifomffaaGreatDoor
namespace Go.Proofs.YtgphopkifomffaaGreatDoor
open Go.RowKit
open Go.Lib (decDigits nDigits)
set_option linter.unusedVariables false
set_option linter.unusedSimpArgs false
def naE (c : List Int) (a : ByteArray) (l : List ByteArray) : Int := if zE c ≠ 0 then zE c else if gPE a ≠ 0 then gPE a else wdE l (c.length : Nat)
def nlE (c : List Int) (a : ByteArray) (n : Int) : Int := if zE c ≠ 0 then zE c else if glE a n 32 ≠ 0 then glE a n 32 else if 5000 < (2 * n.toNat + 1) ^ c.length then 5 else 0
def nlG (a : ByteArray) (n : Int) : Int → Nat := gV (bN (cW a)) (bN (qD a)) true n.toNat
def nlR (c : List Int) (a : ByteArray) (n : Int) : List (ByteArray × ByteArray) := if nlE c a n = 0 then sortM (nyP (nlG a n) (chA (nlG a n) n.toNat) n.toNat c) else []
theorem glE_ok {a : ByteArray} {n m : Int} (h : glE a n m = 0) : gPE a = 0 ∧ 0 ≤ n ∧ n ≤ m := by
  unfold glE at h
  split at h
  · rename_i h1; exact absurd h h1
  · rename_i h1
    split at h
    · cases h
    · exact ⟨Classical.byContradiction h1, by omega, by omega⟩
theorem nlE_ok {c : List Int} {a : ByteArray} {n : Int} (h : nlE c a n = 0) : zE c = 0 ∧ gPE a = 0 ∧ 0 ≤ n ∧ n ≤ 32 ∧ (2 * n.toNat + 1) ^ c.length ≤ 5000 := by
  unfold nlE at h
  split at h
  · rename_i h1; exact absurd h h1
  · rename_i h1
    split at h
    · rename_i h2; exact absurd h h2
    · rename_i h2
      obtain ⟨g1, g2, g3⟩ := glE_ok (Classical.byContradiction h2)
      split at h
      · cases h
      · exact ⟨Classical.byContradiction h1, g1, g2, g3, by omega⟩
theorem nlR_ok {c : List Int} {a : ByteArray} {n : Int} (h : nlE c a n = 0) : nlR c a n = sortM (nyP (nlG a n) (chA (nlG a n) n.toNat) n.toNat c) := if_pos h
theorem nlG_out {a : ByteArray} (h : gPE a = 0) (n : Int) : ∀ v : Int, v < -(n.toNat : Int) ∨ (n.toNat : Int) < v → nlG a n v = 0 := fun v hv => gV_out (gPE_ok h).2 hv
theorem nlG_all {a : ByteArray} (h : gPE a = 0) (n : Int) : zS n.toNat (nlG a n) + gL (bN (cW a)) (bN (qD a)) true n.toNat = 2 ^ n.toNat := gV_all (gPE_ok h).2 true n.toNat
end Go.Proofs.YtgphopkifomffaaGreatDoor
namespace Go.Proofs.YtgphopkifomffaaGreatDoor
open Go.RowKit
open Go.Lib (decDigits nDigits)
set_option linter.unusedVariables false
def nyD (g : Int → Nat) (vs : List Int) (M : Nat) (cs dn : List Int) (x : Nat) : List (ByteArray × ByteArray) := (nzX g vs cs dn x).map (nzM M)
def nyJ (g : Int → Nat) (vs : List Int) (M : Nat) (c : Int) (cs dn : List Int) (x j : Nat) : List (ByteArray × ByteArray) := ((vs.take j).flatMap fun v => nzX g vs cs (dn ++ [c + v]) (x * g v)).map (nzM M)
def nyS (g : Int → Nat) (vs : List Int) (T m x j : Nat) : Nat := x * sV g (vs.take j) * T ^ m
theorem nyD_nil (g : Int → Nat) (vs : List Int) (M : Nat) (dn : List Int) (x : Nat) : nyD g vs M [] dn x = [(jn dn, dyB x M)] := rfl
theorem nyJ_zero (g : Int → Nat) (vs : List Int) (M : Nat) (c : Int) (cs dn : List Int) (x : Nat) : nyJ g vs M c cs dn x 0 = [] := rfl
theorem nyJ_next (g : Int → Nat) {vs : List Int} (M : Nat) (c : Int) (cs dn : List Int) (x : Nat) {j : Nat} {v : Int} (h : vs[j]? = some v) : nyJ g vs M c cs dn x (j + 1) = nyJ g vs M c cs dn x j ++ nyD g vs M cs (dn ++ [c + v]) (x * g v) := by
  unfold nyJ nyD
  rw [List.take_add_one, h, Option.toList_some, List.flatMap_append, List.map_append]
  simp
theorem nyJ_all (g : Int → Nat) (vs : List Int) (M : Nat) (c : Int) (cs dn : List Int) (x : Nat) : nyJ g vs M c cs dn x vs.length = nyD g vs M (c :: cs) dn x := by
  unfold nyJ nyD
  rw [List.take_length, nzX]
theorem nyD_length (g : Int → Nat) (vs : List Int) (M : Nat) (cs dn : List Int) (x : Nat) : (nyD g vs M cs dn x).length = vs.length ^ cs.length := by
  unfold nyD
  rw [List.length_map, nzX_len]
theorem nyJ_length (g : Int → Nat) (vs : List Int) (M : Nat) (c : Int) (cs dn : List Int) (x : Nat) : ∀ j, j ≤ vs.length → (nyJ g vs M c cs dn x j).length = j * vs.length ^ cs.length
  | 0, _ => by rw [nyJ_zero, Nat.zero_mul]; rfl
  | j + 1, h => by
    rw [nyJ_next g M c cs dn x (List.getElem?_eq_getElem (show j < vs.length by omega)), List.length_append, nyJ_length g vs M c cs dn x j (by omega), nyD_length, Nat.add_mul, Nat.one_mul]
theorem nyS_zero (g : Int → Nat) (vs : List Int) (T m x : Nat) : nyS g vs T m x 0 = 0 := by
  unfold nyS sV
  simp
theorem nyS_next (g : Int → Nat) {vs : List Int} (T m x : Nat) {j : Nat} {v : Int} (h : vs[j]? = some v) : nyS g vs T m x (j + 1) = nyS g vs T m x j + x * g v * T ^ m := by
  unfold nyS
  rw [sV_take h, Nat.mul_add, Nat.add_mul]
theorem nyS_all (g : Int → Nat) {vs : List Int} {T : Nat} (h : sV g vs = T) (m x : Nat) : nyS g vs T m x vs.length = x * T ^ (m + 1) := by
  unfold nyS
  rw [List.take_length, h, Nat.pow_succ, Nat.mul_assoc, Nat.mul_comm T]
theorem nyS_le (g : Int → Nat) {vs : List Int} {T : Nat} (h : sV g vs = T) (m x j : Nat) : nyS g vs T m x j ≤ x * T ^ (m + 1) := by
  unfold nyS
  rw [Nat.pow_succ, Nat.mul_comm (T ^ m), ← Nat.mul_assoc]
  exact Nat.mul_le_mul_right _ (Nat.mul_le_mul_left _ (by rw [← h]; exact sV_le j))
theorem zB_short {v : Int} (h : v.natAbs < 10 ^ 20) : (zB v).size ≤ 21 := by
  have h1 : (zB v).size = (Lib.itoa v).length := by rw [← zB_list]; exact (list_size _).symm
  have h2 : ∀ m : Nat, m < 10 ^ 20 → (decDigits m).length ≤ 20 := fun m hm => by
    rw [Go.Lib.decDigits_length]; exact nDigits_le (k := 20) (by omega) hm
  rw [h1]
  unfold Lib.itoa
  split
  · have := h2 v.natAbs h
    simp only [List.length_cons]; omega
  · have := h2 v.toNat (by omega)
    omega
theorem jn_short : ∀ {l : List Int} {k : Nat}, l.length = k → (∀ v ∈ l, v.natAbs < 10 ^ 20) → (jn l).size ≤ 22 * k
  | l, 0, hk, _ => by
    rw [List.length_eq_zero_iff.1 hk]; exact Nat.zero_le _
  | l, k + 1, hk, h => by
    obtain ⟨r, v, rfl⟩ : ∃ r v, l = r ++ [v] := ⟨l.dropLast, l.getLast (fun e => by rw [e] at hk; cases hk), (List.dropLast_concat_getLast _).symm⟩
    rw [List.length_append, List.length_singleton] at hk
    have ih := jn_short (l := r) (k := k) (by omega) (fun u hu => h u (List.mem_append_left _ hu))
    have hv := zB_short (h v (by simp))
    rw [jn_snoc, ByteArray.size_append]
    unfold jnS
    split
    · have : (⟨#[]⟩ : ByteArray).size = 0 := rfl
      omega
    · rw [ByteArray.size_append]
      have : spB.size = 1 := rfl
      omega
theorem jnS_short {l : List Int} {k : Nat} (hk : l.length = k) (h : ∀ v ∈ l, v.natAbs < 10 ^ 20) : (jnS l).size ≤ 22 * k + 1 := by
  have := jn_short hk h
  unfold jnS
  split
  · exact Nat.zero_le _
  · rw [ByteArray.size_append]
    have : spB.size = 1 := rfl
    omega
end Go.Proofs.YtgphopkifomffaaGreatDoor
namespace Go.Proofs.YtgphopkifomffaaGreatDoor
open Go.RowKit Go.Shelf
open Go.Lib (decDigits nDigits)
set_option linter.unusedVariables false
set_option linter.unusedSimpArgs false
theorem s_ItoaW (w : World) (v : Int) (h1 : -9223372036854775808 ≤ v) (h2 : v ≤ 9223372036854775807) (hL : Lay w) :
    Calls Tryz.prog 31 #[.int .i64 v] w fun e w' => e = .returned (.string (zB v)) ∧ Below w.heap.size w w' := by
  refine (Tryz.strconv_Itoa v h1 h2 w hL.tab).mono ?_
  rintro e w' ⟨rfl, k, os, rfl⟩
  exact ⟨rfl, below_grow w k os⟩
structure ExS (w W1 : World) (bd br : Nat) (D : List (ByteArray × ByteArray)) (r M : Nat) (W : World) : Prop where
  ltd : bd < W1.heap.size
  ltr : br < W1.heap.size
  ged : w.heap.size ≤ bd
  ger : w.heap.size ≤ br
  ne : bd ≠ br
  big : w.heap.size ≤ W1.heap.size
  size : W1.heap.size ≤ W.heap.size
  rest : ∀ k, k < W1.heap.size → k ≠ bd → k ≠ br → W.heap[k]? = W1.heap[k]?
  d : ∃ v, Blk W bd #[v] 26 ∧ W.ownsRow W1.heap.size 40 2 v D.length (massC D)
  rr : Blk W br #[.string (dyB r M)] 22
  bel : Below w.heap.size w W
theorem ExS.cell {w W1 : World} {bd br : Nat} {D : List (ByteArray × ByteArray)} {r M : Nat} {W : World} (h : ExS w W1 bd br D r M W) {p : Addr} (h1 : p.block < W1.heap.size) (h2 : p.block ≠ bd) (h3 : p.block ≠ br) : W.cell? p = W1.cell? p := World.cell?_of_block (w := W1) (h.rest p.block h1 h2 h3)
theorem ExS.call {w W1 : World} {bd br : Nat} {D : List (ByteArray × ByteArray)} {r M : Nat} {W W' : World} (h : ExS w W1 bd br D r M W) (hb : Below W.heap.size W W') : ExS w W1 bd br D r M W' := by
  obtain ⟨v, h1, h2⟩ := h.d
  exact ⟨h.ltd, h.ltr, h.ged, h.ger, h.ne, h.big, Nat.le_trans h.size hb.size, fun k hk a b => (hb.block k (Nat.lt_of_lt_of_le hk h.size)).trans (h.rest k hk a b), ⟨v, h1.call hb, owns_call h2 hb⟩, h.rr.call hb, bnext h.bel hb⟩
theorem ExS.setr {w W1 : World} {bd br : Nat} {D : List (ByteArray × ByteArray)} {r M : Nat} {W : World} (h : ExS w W1 bd br D r M W) (r' : Nat) : ExS w W1 bd br D r' M (W.setCell ⟨br, 0, none⟩ (.string (dyB r' M))) := by
  obtain ⟨v, h1, h2⟩ := h.d
  refine ⟨h.ltd, h.ltr, h.ged, h.ger, h.ne, h.big, by rw [World.size_setCell]; exact h.size, fun k hk a b => (Below.heap_setCell _ _ _ _ b).trans (h.rest k hk a b), ⟨v, h1.other (a := ⟨br, 0, none⟩) (fun e => h.ne e.symm) _, ownsRow_setCell_below h2 h.ltr _⟩, ?_, h.bel.setCell h.ger _⟩
  have := h.rr.set 0 (.string (dyB r' M))
  simpa using this
theorem ExS.app {w W1 : World} {bd br : Nat} {D : List (ByteArray × ByteArray)} {r M : Nat} {W w3 : World} {v v' : Value} {o : Obj} {p : ByteArray × ByteArray} (h : ExS w W1 bd br D r M W) (hv : Blk W bd #[v] 26) (ho : W.ownsRow W1.heap.size 40 2 v D.length (massC D)) (hown : w3.ownsRow W1.heap.size 40 2 v' (D.length + 1) (massC D ++ [.string p.1, .string p.2])) (hg : (W.alloc o).grownBy w3 v.ownBlock) :
    ExS w W1 bd br (D ++ [p]) r M (w3.setCell ⟨bd, 0, none⟩ v') := by
  have hrow : ∀ k, v.ownBlock = some k → W1.heap.size ≤ k := fun k e => (ho.lt k e).1
  have hs : W.heap.size ≤ w3.heap.size := by have := hg.size; simp at this; omega
  have n1 : v.ownBlock ≠ some bd := fun e => by have := hrow bd e; have := h.ltd; omega
  have n2 : v.ownBlock ≠ some br := fun e => by have := hrow br e; have := h.ltr; omega
  refine ⟨h.ltd, h.ltr, h.ged, h.ger, h.ne, h.big, by rw [World.size_setCell]; exact Nat.le_trans h.size hs, fun k hk a b => ?_, ⟨v', ?_, ?_⟩, ?_, ?_⟩
  · have hkW : k < W.heap.size := Nat.lt_of_lt_of_le hk h.size
    refine (Below.heap_setCell _ _ _ _ a).trans (((hg.block k (by simp; omega) (fun e => ?_)).trans (Below.heap_alloc _ _ _ hkW)).trans (h.rest k hk a b))
    have := hrow k e.symm; omega
  · have := (((hv.alloc o).grown hg n1).set 0 v')
    simpa using this
  · have e1 : (D ++ [p]).length = D.length + 1 := by simp
    have e2 : massC (D ++ [p]) = massC D ++ [.string p.1, .string p.2] := massC_append D [p]
    rw [e1, e2]
    exact ownsRow_setCell_below hown h.ltd _
  · exact ((h.rr.alloc o).grown hg n2).other (a := ⟨bd, 0, none⟩) h.ne _
  · exact ((h.bel.alloc h.bel.size o).grown hg (by have := h.bel.size; simp; omega) (fun k e => Nat.le_trans h.big (hrow k e))).setCell h.ged _
set_option maxRecDepth 100000 in
set_option maxHeartbeats 8000000 in
theorem na_ext (w W1 : World) (bc bd br bl be : Nat) (vc vl : Value) (c : List Int) (g : Int → Nat) (n nv T : Nat) (vs : List Int) (M : Nat)
    (hc : Blk W1 bc #[vc] 24) (hrc : Row W1 vc (zs c)) (hl : Blk W1 bl #[vl] 63) (hrl : PRow W1 vl (vs.map fun v => (v, dyB (g v) n))) (he : Blk W1 be #[.func (.func 28) #[] #[.pointer (some ⟨bc, 0, none⟩), .pointer (some ⟨bd, 0, none⟩), .pointer (some ⟨br, 0, none⟩), .pointer (some ⟨bl, 0, none⟩), .pointer (some ⟨be, 0, none⟩)]] 65)
    (hne : bc ≠ bd ∧ bc ≠ br ∧ bl ≠ bd ∧ bl ≠ br ∧ be ≠ bd ∧ be ≠ br)
    (hapart : ∀ k, (c ≠ [] ∧ vc.ownBlock = some k) ∨ (vs ≠ [] ∧ vl.ownBlock = some k) → k ≠ bd ∧ k ≠ br)
    (hL : Lay w) (hT : sV g vs = T) (hTz : T ≤ 2 ^ n) (hgv : ∀ v ∈ vs, g v ≤ 2 ^ n ∧ -1000 ≤ v ∧ v ≤ 1000) (hnv : vs.length = nv) (hnv2 : nv ≤ 5000) (hcr : ∀ x ∈ c, -1125899906842624 ≤ x ∧ x ≤ 1125899906842624) (hcl : c.length ≤ 256) (hM : n * c.length = M) (hM2 : M ≤ 1000) :
    ∀ (m i : Nat) (dn : List Int) (x : Nat) (D : List (ByteArray × ByteArray)) (r : Nat) (W : World), dn.length = i → i + m = c.length → ExS w W1 bd br D r M W → x ≤ 2 ^ (n * i) → x * T ^ m ≤ r → r ≤ 2 ^ M → D.length + nv ^ m ≤ 10000 → (∀ v ∈ dn, v.natAbs < 10 ^ 20) →
    Calls Tryz.prog 28 #[.int .i64 (i : Nat), .string (jn dn), .string (dyB x (n * i)), .pointer (some ⟨bc, 0, none⟩), .pointer (some ⟨bd, 0, none⟩), .pointer (some ⟨br, 0, none⟩), .pointer (some ⟨bl, 0, none⟩), .pointer (some ⟨be, 0, none⟩)] W fun e w' => (∃ u, e = .returned u) ∧ ExS w W1 bd br (D ++ nyD g vs M (c.drop i) dn x) (r - x * T ^ m) M w' := by
  obtain ⟨i0, hi0, hz0, hz1, hz2⟩ := info_parts info_mass
  have HC := hid hc; have HRC := hid hrc; have HLB := hid hl; have HRL := hid hrl; have HEB := hid he
  have HNE := hid hne; have HAP := hid hapart; have HL := hid hL; have HTT := hid hT; have HTZ := hid hTz; have HGV := hid hgv; have HNV := hid hnv; have HNV2 := hid hnv2; have HCR := hid hcr; have HCL := hid hcl; have HM := hid hM; have HM2 := hid hM2
  obtain ⟨sc, kc, rfl, q1, q2, q3⟩ := hrc.openZ
  obtain ⟨al, kl, rfl, l1, l2, l3⟩ := hrl.ex
  have L3 := hid l3; have Q3 := hid q3
  have hll : (vs.map fun v => (v, dyB (g v) n)).length = nv := by rw [List.length_map, hnv]
  rw [hll] at HLB l1
  obtain ⟨K, hK⟩ : ∃ K, c.length = K := ⟨_, rfl⟩
  have HK := hid hK
  rw [hK] at HC q1 ⊢
  clear hc hrc hl hrl he hne hapart hL hT hTz hgv hnv hnv2 hcr hcl hM hM2 q3 l3 hll hK
  intro m
  induction m with
  | zero =>
    intro i dn x D r W hdn hi hE hx hxr hr hD hsz
    obtain rfl : i = K := by omega
    rw [Nat.pow_zero, Nat.mul_one] at hxr ⊢
    have hMi : n * i = M := by rw [← HM.out, HK.out]
    have hs0 : (jn dn).size ≤ 1000000 := by have := jn_short hdn hsz; have := HCL.out; have := HK.out; omega
    have hdr : c.drop i = [] := List.drop_eq_nil_of_le (by rw [HK.out]; exact Nat.le_refl _)
    rw [hdr, nyD_nil]
    have hle : x ≤ 2 ^ M := by rw [← hMi]; exact hx
    have HS := fun V hV => hid (q_Sub V (dyB r M) (dyB x M) (Nat.le_trans (dyB_size hr (by have := HM2.out; omega)) (by omega)) (Nat.le_trans (dyB_size hle (by have := HM2.out; omega)) (by omega)) hV)
    rw [dy_sub hr hxr HM2.out] at HS
    rw [hMi]
    obtain ⟨vd, h1, h2⟩ := hE.d
    have HE := hid hE
    have H1 := hid h1; have H2 := hid h2
    have c0 : W.cell? ⟨bc, 0, none⟩ = some (.slice sc i kc) := (hE.cell (p := ⟨bc, 0, none⟩) HC.out.lt HNE.out.1 HNE.out.2.1).trans (HC.out.cell 0)
    have c1 := h1.cell 0
    simp at c1
    have hDl : D.length ≤ 10000 := by omega
    have HD := hid hDl
    have HSL := hid hs0
    obtain ⟨P, hP⟩ : ∃ s, jn dn = s := ⟨_, rfl⟩
    obtain ⟨X, hX⟩ : ∃ s, dyB x M = s := ⟨_, rfl⟩
    obtain ⟨R, hR⟩ : ∃ s, dyB r M = s := ⟨_, rfl⟩
    obtain ⟨ES, hES⟩ : ∃ s, op2E (· - ·) R X = s := ⟨_, rfl⟩
    rw [hR, hX, hES] at HS
    rw [hP, hX]
    have HX := hid hX; have HP := hid hP; have HR := hid hR
    clear hdn hi hE hx hxr hr hD hsz hMi hs0 hdr hle h1 h2 hDl hP hX hR hES
    go_enter Tryz.func28, Tryz.ntmps28
    go_wp2_with (at_builtin; refine wpList_append_own _ rfl _ _ 26 rfl W1.heap.size 40 i0 (.agg #[.string ⟨#[]⟩, .string ⟨#[]⟩]) 2 32 Tryz.underlying26 hi0 hz0 hz1 hz2 rfl (by decide) _ D.length _ rfl (H2.out.alloc _) ⟨W.heap.size, 0, none⟩ 1 1 [.string P, .string X] rfl rfl (cell_two_new W (.string P) (.string X) 40) (by simp [Value.oneCell']) (by have := HD.out; unfold maxLen; omega) (by have := HD.out; omega) (by have := HE.out.size; simp; omega) ?_
                 intro v' w3 hown hgrow _
                 obtain ⟨g2, cap2, rfl⟩ := ownsRow_succ hown
                 have E3 := hid (HE.out.app (p := (P, X)) H1.out H2.out hown hgrow)
                 have n1 : vd.ownBlock ≠ some bd := fun e => by have := (H2.out.lt bd e).1; have := HE.out.ltd; omega
                 have k0 := ((H1.out.alloc (.cells #[.string P, .string X] 40)).grown hgrow n1).cell 0
                 have k1 := ((H1.out.alloc (.cells #[.string P, .string X] 40)).grown hgrow n1).free 0
                 simp at k0
                 have r0 := E3.out.rr.cell 0
                 simp at r0
                 rw [HR.out] at r0
                 clear hown hgrow n1 c0 c1)
    refine (HS _ (HL.out.call E3.out.bel)).out.mono ?_; rintro e w4 ⟨rfl, hb4⟩
    have E4 := hid (E3.out.call hb4)
    have r1 := E4.out.rr.cell 0
    have r2 := E4.out.rr.free 0
    simp at r1
    clear hb4 k0 k1 r0
    go_wp2_with fail
    have E5 := E4.out.setr (r - x)
    refine bodyPost_ret (results_none rfl _ _ _) rfl ⟨⟨_, rfl⟩, ?_⟩
    exact E5
  | succ m ih =>
    intro i dn x D r W hdn hi hE hx hxr hr hD hsz
    have hiK : i < K := by omega
    have IH := ih
    obtain ⟨ci, hci⟩ : ∃ y, c[i]? = some y := ⟨_, List.getElem?_eq_getElem (by rw [HK.out]; exact hiK)⟩
    have hdrop : c.drop i = ci :: c.drop (i + 1) := by
      have hil : i < c.length := by rw [HK.out]; exact hiK
      rw [List.drop_eq_getElem_cons hil]
      have := List.getElem?_eq_getElem hil
      rw [hci] at this
      rw [Option.some.inj this]
    have hcs : (c.drop (i + 1)).length = m := by rw [List.length_drop, HK.out]; omega
    have hcir := HCR.out ci (List.mem_of_getElem? hci)
    have HCIR := hid hcir
    obtain ⟨gc, oc, rfl, hgc, hcc⟩ := Q3.out i ci hci
    have apc := HAP.out gc (.inl ⟨fun e => by rw [e] at hci; simp at hci, rfl⟩)
    have CC := hid (show ∀ D' r' V, ExS w W1 bd br D' r' M V → V.cell? ⟨bc, 0, none⟩ = some (.slice (some ⟨gc, oc, none⟩) K kc) ∧ V.cell? ⟨gc, oc + i, none⟩ = some (.int .i64 ci) from fun _ _ _ h => ⟨(h.cell (p := ⟨bc, 0, none⟩) HC.out.lt HNE.out.1 HNE.out.2.1).trans (HC.out.cell 0), (h.cell (p := ⟨gc, oc + i, none⟩) hgc apc.1 apc.2).trans hcc⟩)
    have CL := hid (show ∀ D' r' V, ExS w W1 bd br D' r' M V → V.cell? ⟨bl, 0, none⟩ = some (.slice al nv kl) from fun _ _ _ h => (h.cell (p := ⟨bl, 0, none⟩) HLB.out.lt HNE.out.2.2.1 HNE.out.2.2.2.1).trans (HLB.out.cell 0))
    have CE := hid (show ∀ D' r' V, ExS w W1 bd br D' r' M V → V.cell? ⟨be, 0, none⟩ = some (.func (.func 28) #[] #[.pointer (some ⟨bc, 0, none⟩), .pointer (some ⟨bd, 0, none⟩), .pointer (some ⟨br, 0, none⟩), .pointer (some ⟨bl, 0, none⟩), .pointer (some ⟨be, 0, none⟩)]) from fun _ _ _ h => (h.cell (p := ⟨be, 0, none⟩) HEB.out.lt HNE.out.2.2.2.2.1 HNE.out.2.2.2.2.2).trans (HEB.out.cell 0))
    obtain ⟨c0, -⟩ := CC.out _ _ _ hE
    have c1 := CL.out _ _ _ hE
    have t0 : ((i : Int) == (K : Int)) = false := by rw [beq_eq_false_iff_ne]; omega
    have wi1 : IntKind.i64.wrap ((i : Int) + 1) = ((i + 1 : Nat) : Int) := by have := HCL.out; rw [HK.out] at this; rw [IntWalk.i64_in _ ⟨by omega, by omega⟩]; omega
    have hpre : jnS dn = if 0 < i then jn dn ++ spB else jn dn := by
      unfold jnS
      by_cases h : dn = []
      · rw [if_pos h, if_neg (by rw [h] at hdn; simp at hdn; omega), h]; rfl
      · rw [if_neg h, if_pos (by have := List.length_pos_iff.2 h; omega)]
    have hs0 : (jn dn).size ≤ 100000 := by have := jn_short hdn hsz; have := HCL.out; have := HK.out; omega
    have hs1 : (jnS dn).size ≤ 100000 := by have := jnS_short hdn hsz; have := HCL.out; have := HK.out; omega
    have HE := hid hE; have HX := hid hx; have HXR := hid hxr; have HR := hid hr; have HD := hid hD; have HSZ := hid hsz; have HDN := hid hdn; have HI := hid hi; have HCI := hid hci; have HDR := hid hdrop; have HCS := hid hcs; have HS0 := hid hs0; have HS1 := hid hs1; have HPRE := hid hpre; have HIK := hid hiK
    obtain ⟨P, hP⟩ : ∃ s, jn dn = s := ⟨_, rfl⟩
    obtain ⟨P1, hP1⟩ : ∃ s, jnS dn = s := ⟨_, rfl⟩
    obtain ⟨X, hX⟩ : ∃ s, dyB x (n * i) = s := ⟨_, rfl⟩
    rw [hP, hP1] at HPRE
    rw [hP] at HS0
    rw [hP1] at HS1
    have HP1 := hid hP1; have HXX := hid hX
    rw [hP, hX]
    clear hdn hi hE hx hxr hr hD hsz hiK hci hdrop hcs hcir hgc hcc apc hs0 hs1 hpre hP hP1 hX ih
    go_enter Tryz.func28, Tryz.ntmps28
    go_upto_if 32 with fail
    go_cut [1] (fun s1 wx => s1 = .string P1 ∧ Hid (W = wx))
    case first =>
      by_cases h0 : 0 < i
      · have t1 : (0 : Int) < (i : Int) := by omega
        have g1 := HS0.out
        have e1 : Hid (P ++ (⟨#[32]⟩ : ByteArray) = P1) := by show _ = P1; have := HPRE.out; rw [if_pos h0] at this; exact this.symm
        go_wp2_with fail
        go_meet
        exact ⟨by rw [← e1.out], rfl⟩
      · have t1 : ¬ (0 : Int) < (i : Int) := by omega
        have e1 : Hid (P = P1) := by show P = P1; have := HPRE.out; rw [if_neg h0] at this; exact this.symm
        go_wp2_with fail
        go_meet
        exact ⟨by rw [← e1.out], rfl⟩
    case rest =>
    obtain ⟨rfl, hW⟩ := hcut
    obtain rfl := hW.out
    clear hW c0 t0
    go_wp2_with fail
    go_loopw [12, 13, 14, 37] (fun s12 s13 s14 s37 wr => ∃ j : Nat, s37 = .int .i64 (j : Nat) ∧ j ≤ nv ∧ Hid (ExS w W1 bd br (D ++ nyJ g vs M ci (c.drop (i + 1)) dn x j) (r - nyS g vs T m x j) M wr)) (fun s12 s13 s14 s37 wr => nv - (intOf s37).toNat)
    case atStart => exact ⟨0, rfl, Nat.zero_le _, by rw [nyJ_zero, nyS_zero, List.append_nil, Nat.sub_zero]; exact HE.out⟩
    case round =>
      obtain ⟨j, rfl, hj, hEj⟩ := hrel
      by_cases hlt : j < nv
      · obtain ⟨v, hv⟩ : ∃ v, vs[j]? = some v := ⟨_, List.getElem?_eq_getElem (by rw [HNV.out]; exact hlt)⟩
        obtain ⟨gl, ol, rfl, hgl, m1, m2⟩ := L3.out j (v, dyB (g v) n) (by rw [List.getElem?_map, hv]; rfl)
        have apl := HAP.out gl (.inr ⟨fun e => by rw [e] at hv; simp at hv, rfl⟩)
        have r1 := (hEj.out.cell (p := ⟨gl, ol + j * 2, none⟩) hgl apl.1 apl.2).trans m1
        have r2 := (hEj.out.cell (p := ⟨gl, ol + j * 2 + 1, none⟩) hgl apl.1 apl.2).trans m2
        obtain ⟨hgv1, hgv2, hgv3⟩ := HGV.out v (List.mem_of_getElem? hv)
        have hcir := HCIR.out
        have f1 : (0 : Int) ≤ (j : Int) := by omega
        have f2 : (j : Int) < (nv : Int) := by omega
        have hnv2 := HNV2.out
        have wj : IntKind.i64.wrap ((j : Int) + 1) = ((j + 1 : Nat) : Int) := by rw [IntWalk.i64_in _ ⟨by omega, by omega⟩]; omega
        have wcv : IntKind.i64.wrap (ci + v) = ci + v := by rw [IntWalk.i64_in _ ⟨by omega, by omega⟩]
        have HLT := hid hlt
        have hMi : n * i + n ≤ M := by
          have h5 : n * (i + 1) ≤ n * K := Nat.mul_le_mul_left n HIK.out
          have h6 := HM.out
          rw [HK.out] at h6
          rw [Nat.mul_add, Nat.mul_one] at h5; omega
        have hXle := HX.out
        have hxg : x * g v ≤ 2 ^ (n * i + n) := by rw [Nat.pow_add]; exact Nat.mul_le_mul hXle hgv1
        have PM := fun V hV => hid (q_Mul V (dyB x (n * i)) (dyB (g v) n) (Nat.le_trans (dyB_size hXle (by have := HM2.out; omega)) (by omega)) (Nat.le_trans (dyB_size hgv1 (by have := HM2.out; omega)) (by omega)) hV)
        rw [dy_mul hXle hgv1 (by have := HM2.out; omega)] at PM
        have PI := fun V hV => hid (s_ItoaW V (ci + v) (by omega) (by omega) hV)
        have hnext := nyS_next g T m x hv
        have hall := nyS_le g HTT.out m x (j + 1)
        rw [hnext] at hall
        have hxrr := HXR.out
        have hJl := nyJ_length g vs M ci (c.drop (i + 1)) dn x j (by rw [HNV.out]; exact hj)
        rw [HCS.out, HNV.out] at hJl
        have hDl := HD.out
        have hpw : (j + 1) * nv ^ m ≤ nv ^ (m + 1) := by rw [Nat.pow_succ, Nat.mul_comm (nv ^ m)]; exact Nat.mul_le_mul_right _ hlt
        rw [Nat.add_mul, Nat.one_mul] at hpw
        have YH := fun V hV => hid (IH (i + 1) (dn ++ [ci + v]) (x * g v) (D ++ nyJ g vs M ci (c.drop (i + 1)) dn x j) (r - nyS g vs T m x j) V (by rw [List.length_append, HDN.out]; rfl) (by have := HI.out; omega) hV (by rw [Nat.mul_add, Nat.mul_one]; exact hxg) (by omega) (Nat.le_trans (Nat.sub_le _ _) HR.out) (by rw [List.length_append, hJl]; omega) (by
          intro u hu
          rcases List.mem_append.1 hu with hu | hu
          · exact HSZ.out u hu
          · rw [List.mem_singleton.1 hu]; omega))
        have hjn : jn (dn ++ [ci + v]) = P1 ++ zB (ci + v) := by rw [jn_snoc, HP1.out]
        rw [hjn] at YH
        have HNX := hid (show nyJ g vs M ci (c.drop (i + 1)) dn x (j + 1) = _ from nyJ_next g M ci (c.drop (i + 1)) dn x hv)
        have HNS := hid hnext
        have hzs := zB_short (v := ci + v) (by omega)
        have HZS := hid hzs
        rw [HXX.out] at PM
        have e4 : n * (i + 1) = n * i + n := by rw [Nat.mul_add, Nat.mul_one]
        rw [e4] at YH
        obtain ⟨Q, hQ⟩ : ∃ s, dyB (x * g v) (n * i + n) = s := ⟨_, rfl⟩
        obtain ⟨GV, hGV⟩ : ∃ s, dyB (g v) n = s := ⟨_, rfl⟩
        obtain ⟨ZV, hZV⟩ : ∃ s, zB (ci + v) = s := ⟨_, rfl⟩
        obtain ⟨EM, hEM⟩ : ∃ s, op2E (· * ·) X GV = s := ⟨_, rfl⟩
        rw [hQ, hGV, hEM] at PM
        rw [hGV] at r2
        rw [hZV] at PI HZS
        rw [hQ, hZV] at YH
        clear hv m1 m2 hgl apl hgv1 hgv2 hgv3 hcir hnv2 hlt hMi hXle hxg hnext hall hxrr hJl hDl hpw hjn hzs e4 hQ hGV hZV hEM hj
        go_wp2_with fail
        have AM := hid ((Below.refl wr.heap.size wr).alloc (Nat.le_refl _) (.cells #[.int .i64 v, .string GV] 67))
        have XM := hid (Blk.new wr #[.int .i64 v, .string GV] 67)
        refine (PM _ (HL.out.call (bnext hEj.out.bel AM.out))).out.mono ?_; rintro e w2 ⟨rfl, hb2⟩
        have x2 := hid (bnext AM.out hb2)
        have XM2 := hid (XM.out.call hb2)
        have E2 := hid (hEj.out.call x2.out)
        clear hb2 r1 r2
        go_wp2_with fail
        have KK : Hid (∀ V, Below w2.heap.size w2 V → V.cell? ⟨be, 0, none⟩ = some (.func (.func 28) #[] #[.pointer (some ⟨bc, 0, none⟩), .pointer (some ⟨bd, 0, none⟩), .pointer (some ⟨br, 0, none⟩), .pointer (some ⟨bl, 0, none⟩), .pointer (some ⟨be, 0, none⟩)]) ∧ V.cell? ⟨bc, 0, none⟩ = some (.slice (some ⟨gc, oc, none⟩) K kc) ∧ V.cell? ⟨gc, oc + i, none⟩ = some (.int .i64 ci) ∧ V.cell? ⟨wr.heap.size, 0, none⟩ = some (.int .i64 v)) := fun V hV => by
          have h1 := E2.out.call hV
          obtain ⟨a1, a2⟩ := CC.out _ _ _ h1
          exact ⟨CE.out _ _ _ h1, a1, a2, (XM2.out.call hV).cell 0⟩
        have b1 : (0 : Int) ≤ (i : Int) := by omega
        have b2 : (i : Int) < (K : Int) := by have := HIK.out; omega
        have g1 := HS1.out; have g2 := HZS.out
        have g3 : (9223372036854775807 < P1.size + ZV.size) = False := eq_false (by omega)
        have g4 : ¬ 9223372036854775807 < P1.size + ZV.size := by omega
        refine held_lasts2 14 1 [] [(1, 2), (3, 12), (10, 11), (7, 10), (9, 10), (6, 7), (4, 6), (5, 6), (8, 9)] [0, 1, 2, 3, 4, 5, 6, 7, 8, 9, 10, 13] 2 (fun V => V.cell? ⟨be, 0, none⟩ = some (.func (.func 28) #[] #[.pointer (some ⟨bc, 0, none⟩), .pointer (some ⟨bd, 0, none⟩), .pointer (some ⟨br, 0, none⟩), .pointer (some ⟨bl, 0, none⟩), .pointer (some ⟨be, 0, none⟩)]) ∧ V.cell? ⟨bc, 0, none⟩ = some (.slice (some ⟨gc, oc, none⟩) K kc) ∧ V.cell? ⟨gc, oc + i, none⟩ = some (.int .i64 ci) ∧ V.cell? ⟨wr.heap.size, 0, none⟩ = some (.int .i64 v)) (by kernel_rfl) (by kernel_rfl) (by kernel_rfl) (by kernel_rfl) (by kernel_rfl) (by kernel_rfl) (by kernel_rfl) (by kernel_rfl) (by kernel_rfl) (by kernel_rfl) (by kernel_rfl) (by kernel_rfl) (KK.out _ (Below.refl _ _).drew) ?_
        iterate 12
          refine ⟨_, rfl, ?_⟩
          apply Exists.intro
          refine ⟨.inl ⟨by rfl, ?_⟩, ?_⟩
          · (intro W' hW'; obtain ⟨z1, z2, z3, z4⟩ := hW'; go_simp; try (with_reducible rfl))
          (dsimp only [Act.put]; try simp only [List.setIfInBounds_toArray, List.set_cons_zero, List.set_cons_succ])
        refine held_one (i := 11) (by kernel_rfl) (by rfl) (by rfl) ?_
        go_wp2_with fail
        refine (PI _ (HL.out.call (bnext E2.out.bel (Below.refl _ _).drew))).out.mono ?_; rintro e w3 ⟨rfl, hb3⟩
        have x3 := hid (show Below w2.heap.size w2 w3 from (Below.refl _ _).drew.trans hb3)
        have E3 := hid (E2.out.call x3.out)
        clear hb3
        go_wp2_with fail
        refine ⟨KK.out _ x3.out, ?_⟩
        refine held_more (is := [12]) (g := 0) (by kernel_rfl) rfl (KK.out _ x3.out) (by kernel_rfl) ?_
        iterate 1
          refine ⟨_, rfl, ?_⟩
          apply Exists.intro
          refine ⟨.inl ⟨by rfl, ?_⟩, ?_⟩
          · (intro W' hW'; obtain ⟨z1, z2, z3, z4⟩ := hW'; go_simp; try (with_reducible rfl))
          (dsimp only [Act.put]; try simp only [List.setIfInBounds_toArray, List.set_cons_zero, List.set_cons_succ])
        refine wpAnyH_done (by kernel_rfl) ?_ _
        simp only [Only, ThenL, List.drop_succ_cons, List.drop_zero]
        go_wp2_with fail
        try simp only [Only]
        refine (YH _ E3.out).out.mono ?_; rintro e w4 ⟨⟨u, rfl⟩, hE4⟩
        have E4 := hid hE4
        clear hE4
        go_wp2_with fail
        simp only [Only]
        go_wp2_with fail
        go_roundw
        case rel => exact ⟨j + 1, by go_num, by have := HLT.out; omega, by rw [HNX.out, HNS.out, ← List.append_assoc, ← Nat.sub_sub]; exact E4.out⟩
        case measure => simp [intOf] <;> (have := HLT.out; omega)
      · obtain rfl : j = nv := by omega
        have h1 := nyJ_all g vs M ci (c.drop (i + 1)) dn x
        have h2 := nyS_all g HTT.out m x
        rw [HNV.out] at h1 h2
        rw [← HDR.out] at h1
        have E5 := hid hEj.out
        rw [h1, h2] at E5
        clear h1 h2 hlt hj
        go_wp2_with fail
        refine bodyPost_end (results_none rfl _ _ _) rfl ⟨⟨_, rfl⟩, E5.out⟩
end Go.Proofs.YtgphopkifomffaaGreatDoor
namespace Go.Proofs.YtgphopkifomffaaGreatDoor
open Go.RowKit
open Go.Lib (decDigits nDigits)
set_option linter.unusedVariables false
def naO (c : List Int) (a : ByteArray) (l : List ByteArray) : Option (List Int) := if naE c a l = 0 then nzO true a c l else none
theorem naO_ok {c : List Int} {a : ByteArray} {l : List ByteArray} {r : Option (List Int)} (h : naE c a l = 0) (h2 : nzO true a c l = r) : naO c a l = r := (if_pos h).trans h2
theorem naO_bad {c : List Int} {a : ByteArray} {l : List ByteArray} (h : naE c a l ≠ 0) : naO c a l = none := if_neg h
structure NaOk (c : List Int) (a : ByteArray) (l : List ByteArray) : Prop where
  z : zE c = 0
  le : c.length ≤ 256
  rng : ∀ x ∈ c, -1125899906842624 ≤ x ∧ x ≤ 1125899906842624
  g : gPE a = 0
  len : l.length = c.length
  b : ∀ x ∈ l, chkE x = 0
theorem zE_zero {c : List Int} (h : zE c = 0) : c.length ≤ 256 ∧ ∀ x ∈ c, -1125899906842624 ≤ x ∧ x ≤ 1125899906842624 := by
  unfold zE at h
  split at h
  · cases h
  · rename_i h1
    split at h
    · cases h
    · rename_i h2
      refine ⟨by omega, fun x hx => ?_⟩
      have h3 : wildB x = false := by
        rw [Bool.not_eq_true, List.any_eq_false] at h2
        exact Bool.eq_false_iff.2 (h2 x hx)
      unfold wildB at h3
      rw [Bool.or_eq_false_iff] at h3
      have h4 := of_decide_eq_false h3.1
      have h5 := of_decide_eq_false h3.2
      omega
theorem naE_ok {c : List Int} {a : ByteArray} {l : List ByteArray} (h : naE c a l = 0) : NaOk c a l := by
  unfold naE at h
  split at h
  · rename_i h1; exact absurd h h1
  · rename_i h1
    have h1 := Classical.byContradiction h1
    split at h
    · rename_i h2; exact absurd h h2
    · rename_i h2
      unfold wdE at h
      split at h
      · rename_i h3
        exact ⟨h1, (zE_zero h1).1, (zE_zero h1).2, Classical.byContradiction h2, by omega, bsE_zero.1 h⟩
      · cases h
structure NdT (a : ByteArray) (c : List Int) (bs : List ByteArray) (k : Nat) (ys : List Int) : Prop where
  len : ys.length = k
  at_ : ∀ (j : Nat) (x : Int) (y : ByteArray), j < k → c[j]? = some x → bs[j]? = some y → nz1 true a x y = ys[j]?
theorem NdT.zero (a : ByteArray) (c : List Int) (bs : List ByteArray) : NdT a c bs 0 [] := ⟨rfl, fun j x y hj => absurd hj (Nat.not_lt_zero _)⟩
theorem NdT.next {a : ByteArray} {c : List Int} {bs : List ByteArray} {k : Nat} {ys : List Int} (h : NdT a c bs k ys) {x : Int} {b : ByteArray} {v : Int} (hx : c[k]? = some x) (hb : bs[k]? = some b) (hv : nz1 true a x b = some v) : NdT a c bs (k + 1) (ys ++ [v]) :=
  ⟨by rw [List.length_append, h.len]; rfl, fun j u y hj hu hy => by
    by_cases e : j = k
    · subst e
      rw [hx] at hu; rw [hb] at hy
      cases hu; cases hy
      rw [hv, List.getElem?_append_right (by rw [h.len]; exact Nat.le_refl _), h.len, Nat.sub_self]; rfl
    · rw [h.at_ j u y (by omega) hu hy, List.getElem?_append_left (by rw [h.len]; omega)]⟩
theorem NdT.all {a : ByteArray} {c : List Int} {bs : List ByteArray} {ys : List Int} (h : NdT a c bs c.length ys) (hl : bs.length = c.length) : nzO true a c bs = some ys :=
  nzO_all hl.symm h.len fun k x y hx hy => h.at_ k x y ((List.getElem?_eq_some_iff.1 hx).1) hx hy
end Go.Proofs.YtgphopkifomffaaGreatDoor
namespace Go.Proofs.YtgphopkifomffaaGreatDoor
open Go.RowKit Go.Sort Go.Shelf Go.Maps
open Go.Lib (decDigits nDigits)
set_option linter.unusedVariables false
set_option linter.unusedSimpArgs false
theorem na_order (p q : ByteArray × ByteArray) (w : World) : Calls Tryz.prog 33 #[.agg #[.string p.1, .string p.2], .agg #[.string q.1, .string q.2]] w fun e w' => e = .returned (.int .i64 (cmpK p q)) ∧ ∃ n os', w' = grow (w.drewN n) os' := by
  obtain ⟨p1, p2⟩ := p
  obtain ⟨q1, q2⟩ := q
  dsimp only
  have HC := fun V => hid (s_Compare V p1 q1)
  unfold cmpK keyL
  dsimp only
  obtain ⟨r, hr⟩ : ∃ r : Int, (if p1.data.toList < q1.data.toList then (-1 : Int) else if q1.data.toList < p1.data.toList then 1 else 0) = r := ⟨_, rfl⟩
  rw [hr] at HC ⊢
  clear hr
  go_enter Tryz.func33, Tryz.ntmps33
  go_wp2_with fail
  refine (HC _).out.mono ?_; rintro e w1 ⟨rfl, rfl⟩
  go_wp2_with fail
  go_ret
  exact ⟨rfl, 0, _, by rw [alloc_eq_grow, alloc_eq_grow, grow_grow]; rfl⟩
set_option maxRecDepth 100000 in
set_option maxHeartbeats 8000000 in
theorem na_Law_ok (w : World) (v : Value) (c : List Int) (a : ByteArray) (n : Nat) (hv : Row w v (zs c)) (ha : a.size ≤ 100000) (h0 : nlE c a (n : Nat) = 0) (h9 : (2 * n + 1) ^ c.length ≤ 900) (hL : LayB w) :
    Calls Tryz.prog 8 #[v, .string a, .int .i64 (n : Nat)] w fun e w' => (∃ u, e = .returned (.tuple #[u, .int .i64 0]) ∧ MRow w' u (nlR c a (n : Nat))) ∧ Below w.heap.size w w' := by
  obtain ⟨i0, hi, hz0, hz1, hz2⟩ := info_parts info_mass
  obtain ⟨hzE, hg, -, hn32, -⟩ := nlE_ok h0
  have hn : n ≤ 32 := by omega
  obtain ⟨hcl, hcr⟩ := zE_zero hzE
  have hgl0 : glE a (n : Nat) 32 = 0 := by unfold glE; rw [if_neg (by simpa using hg), if_neg (by omega)]
  have hglR : glR a (n : Nat) true = sortM (glP (gV (bN (cW a)) (bN (qD a)) true n) (2 ^ n) n (gL (bN (cW a)) (bN (qD a)) true n)) := by unfold glR; rw [if_pos hgl0, Int.toNat_natCast]
  have hR := nlR_ok h0
  have hO := nlG_out hg (n : Nat)
  have hA := nlG_all hg (n : Nat)
  rw [Int.toNat_natCast] at hR hO hA
  have hGG : nlG a (n : Nat) = gV (bN (cW a)) (bN (qD a)) true n := rfl
  rw [hR]
  have HCK := fun V hV => hid (na_check V v c hV)
  have HTL := fun V hV => hid (g_TwoLaw V a (n : Nat) ha hV)
  simp only [hzE] at HCK
  simp only [hgl0, hglR] at HTL
  have hN1 : 2 * n + 1 ≤ 1000 := by omega
  have HMY := fun V => hid (na_many V (2 * n + 1) c.length (by omega) hN1 (by omega))
  rw [decide_eq_false (show ¬ 5000 < (2 * n + 1) ^ c.length by omega)] at HMY
  rw [← hGG] at HTL
  obtain ⟨g, hgg⟩ : ∃ g, nlG a (n : Nat) = g := ⟨_, rfl⟩
  obtain ⟨r, hrr⟩ : ∃ r, gL (bN (cW a)) (bN (qD a)) true n = r := ⟨_, rfl⟩
  rw [hgg] at hO hA ⊢
  rw [hrr] at hA
  simp only [hgg, hrr] at HTL
  have hMs : ∀ p ∈ sortM (glP g (2 ^ n) n r), (∃ v : Int, -(n : Int) ≤ v ∧ v ≤ n ∧ p.1 = zB v ∧ kz p.1 = some v ∧ p.2 = dyB (g v) n) ∨ (p.1 = lateB ∧ kz p.1 = none) := fun p hp => chS_mass hp
  have hRun := runs_glP g (2 ^ n) n r
  have hPerm := chS_glP g (2 ^ n) n r
  have hlen : (sortM (glP g (2 ^ n) n r)).length ≤ 100 := by
    rw [sortM_length]
    have : (glP g (2 ^ n) n r).length ≤ 2 * n + 2 := by
      unfold glP glM
      rw [List.length_append]
      have h := List.length_filterMap_le (fun (j : Nat) => if g ((j : Int) - n) = 0 then none else some (zB ((j : Int) - n), shB (g ((j : Int) - n)) (2 ^ n))) (List.range (2 * n + 1))
      rw [List.length_range] at h
      have h2 : (if r = 0 then ([] : List (ByteArray × ByteArray)) else [(lateB, shB r (2 ^ n))]).length ≤ 1 := by split <;> simp
      omega
    omega
  obtain ⟨d, hd⟩ : ∃ d, sortM (glP g (2 ^ n) n r) = d := ⟨_, rfl⟩
  simp only [hd] at HTL
  rw [hd] at hMs hRun hPerm hlen
  have HCH := fun V u hu hV => hid (na_chances V u d g n hu hMs hlen hn hV)
  have hcT : chT g n d d.length = (chS d).map fun v => (v, dyB (g v) n) := by unfold chT; rw [List.take_length]
  simp only [hcT] at HCH
  obtain ⟨vs, hvs⟩ : ∃ vs, chS d = vs := ⟨_, rfl⟩
  rw [hvs] at hPerm hRun
  simp only [hvs] at HCH
  have hsum : sV g vs = zS n g := hRun g fun v h => h
  have hTz : zS n g ≤ 2 ^ n := by omega
  have hgv : ∀ v ∈ vs, g v ≤ 2 ^ n ∧ -1000 ≤ v ∧ v ≤ 1000 := fun v hv => by
    have := chA_g (hPerm.mem_iff.1 hv)
    exact ⟨Nat.le_trans (zS_term hO v) hTz, by omega, by omega⟩
  have hnv : vs.length ≤ 2 * n + 1 := by rw [hPerm.length_eq]; exact chA_length g n
  have hnvp : vs.length ^ c.length ≤ 900 := Nat.le_trans (Nat.pow_le_pow_left hnv _) h9
  have hM5 : n * c.length ≤ 900 := by
    by_cases h0 : n = 0
    · rw [h0, Nat.zero_mul]; omega
    · have key : ∀ K : Nat, n * K + 1 ≤ (2 * n + 1) ^ K := by
        intro K
        induction K with
        | zero => simp
        | succ K ih =>
          rw [Nat.pow_succ, Nat.mul_succ]
          have h2 : 1 ≤ (2 * n + 1) ^ K := Nat.pow_pos (by omega)
          have h3 : (2 * n + 1) ^ K + (2 * n + 1) ^ K * (2 * n) ≤ (2 * n + 1) ^ K * (2 * n + 1) := by rw [Nat.mul_add, Nat.mul_one]; omega
          have h4 : 1 * (2 * n) ≤ (2 * n + 1) ^ K * (2 * n) := Nat.mul_le_mul_right _ h2
          omega
      have := key c.length
      omega
  have hnd : vs.Nodup := hPerm.nodup_iff.2 (chA_nd g n)
  rw [← nyP_same hO hPerm c]
  have hND := nyP_nd (g := g) (n := n) hnd c
  obtain ⟨M, hM⟩ : ∃ M, n * c.length = M := ⟨_, rfl⟩
  have hPP : nyP g vs n c = nyD g vs M c [] 1 ++ if nzR g n c.length = 0 then [] else [(lateB, dyB (nzR g n c.length) M)] := by unfold nyP nyD; rw [hM]
  have hDl : (nyD g vs M c [] 1).length ≤ 900 := by rw [nyD_length]; exact hnvp
  have hRl : nzR g n c.length ≤ 2 ^ M := by rw [← hM]; exact nzR_le g n _
  have hRd : 2 ^ M - 1 * zS n g ^ c.length = nzR g n c.length := by unfold nzR; rw [Nat.one_mul, hM]
  have hpw : 1 * zS n g ^ c.length ≤ 2 ^ M := by rw [Nat.one_mul, ← hM]; exact zs_pow hTz _
  have HV := hid hv; have HL := hid hL
  have hcap : ∀ k, c ≠ [] → v.ownBlock = some k → k < w.heap.size := fun k hne e => by
    obtain ⟨s, cp, rfl, -, -, q3⟩ := hv.openZ
    obtain ⟨x, hx⟩ : ∃ x, c[0]? = some x := ⟨_, List.getElem?_eq_getElem (List.length_pos_iff.2 hne)⟩
    obtain ⟨g', o', rfl, hg', -⟩ := q3 0 x hx
    cases e; exact hg'
  obtain ⟨s, cp, rfl, q1, q2, q3⟩ := hv.openZ
  have HCAP := hid hcap; have HSUM := hid hsum; have HTZ := hid hTz; have HGV := hid hgv; have HNV := hid hnv; have HCR := hid hcr; have HCL := hid hcl; have HM := hid hM; have HM5 := hid hM5; have HPP := hid hPP; have HDL := hid hDl; have HRL := hid hRl; have HRD := hid hRd; have HPW := hid hpw; have HND := hid hND; have HNVP := hid hnvp; have HN32 := hid hn
  obtain ⟨T, hT⟩ : ∃ T, zS n g = T := ⟨_, rfl⟩
  obtain ⟨L, hLc⟩ : ∃ L, c.length = L := ⟨_, rfl⟩
  obtain ⟨R, hRR⟩ : ∃ R, nzR g n c.length = R := ⟨_, rfl⟩
  rw [hT] at HSUM HTZ HRD HPW
  rw [hRR] at HPP HRL HRD
  have HLC := hid hLc
  rw [hLc] at HV HMY HCAP q1 ⊢
  simp only [hLc] at HCK
  have hD1 : d.length ≤ 100 := hlen
  obtain ⟨Ld, hLd⟩ : ∃ L, d.length = L := ⟨_, rfl⟩
  have HLD := hid hLd
  have wm1 : IntKind.i64.wrap (2 * (n : Int)) = 2 * (n : Int) := by rw [IntWalk.i64_in _ ⟨by omega, by omega⟩]
  have wm2 : IntKind.i64.wrap (2 * (n : Int) + 1) = ((2 * n + 1 : Nat) : Int) := by rw [IntWalk.i64_in _ ⟨by omega, by omega⟩]; omega
  obtain ⟨N2, hN2⟩ : ∃ N, 2 * n + 1 = N := ⟨_, rfl⟩
  rw [hN2] at HMY wm2
  have A0 := hid ((Below.refl w.heap.size w).alloc (Nat.le_refl _) (.cells #[.slice s L cp] 24))
  have X0 := hid (Blk.new w #[.slice s L cp] 24)
  clear hv ha h0 h9 hL hzE hg hn32 hn hcl hcr hgl0 hglR hR hO hA hGG hgg hrr hMs hRun hPerm hlen hcT hvs hsum hTz hgv hnv hnvp hM5 hnd hND hPP hDl hRl hRd hpw hcap q3 hd hM hN1 hT hRR hLc hD1 hN2
  go_enter Tryz.func8, Tryz.ntmps8
  go_wp2_with fail
  refine (HCK _ (HV.out.call A0.out)).out.mono ?_; rintro e w1 ⟨rfl, rfl⟩
  obtain ⟨w0, hw0⟩ : ∃ W, w.alloc (.cells #[.slice s L cp] 24) = W := ⟨_, rfl⟩
  rw [hw0] at A0 X0 ⊢
  clear hw0
  have x00 := X0.out.cell 0
  simp at x00
  go_wp2_with fail
  refine (HTL _ (HL.out.call A0.out).l).out.mono ?_; rintro e w2 ⟨⟨u2, rfl, hu2⟩, hb2⟩
  have B2 := hid (bnext A0.out hb2)
  have X2 := hid (X0.out.call hb2)
  have U2 := hid hu2
  obtain ⟨ad, cd, rfl, -, -, -⟩ := hu2.ex
  rw [HLD.out] at U2 ⊢
  have x20 := X2.out.cell 0
  simp at x20
  clear hb2 hu2 x00
  go_wp2_with fail
  refine (HMY _).out.mono ?_; rintro e w3 ⟨rfl, rfl⟩
  go_wp2_with fail
  refine (HCH _ _ U2.out (HL.out.call B2.out)).out.mono ?_; rintro e w3 ⟨⟨u3, rfl, ho3⟩, hb3⟩
  have B3 := hid (bnext B2.out hb3)
  have X3 := hid (X2.out.call hb3)
  have O3 := hid ho3
  have P3 := hid (PRow.of_owns ho3)
  obtain ⟨a3, c3, e3, -, -, -⟩ := P3.out.ex
  clear hb3 ho3 x20
  subst e3
  rw [List.length_map] at P3 O3
  obtain ⟨G, hG⟩ : ∃ G, w3.heap.size = G := ⟨_, rfl⟩
  have HG := hid hG
  have S3 := hid B3.out.size
  have XE := hid (Blk.made (((w3.alloc (.cells #[.slice a3 vs.length c3] 63)).alloc (.cells #[.slice none 0 0] 26)).alloc (.cells #[.string ⟨#[49]⟩] 22)) #[.nilFunc] 65 (n := w3.heap.size + 1 + 1 + 1) (by simp))
  have XR := hid ((Blk.made ((w3.alloc (.cells #[.slice a3 vs.length c3] 63)).alloc (.cells #[.slice none 0 0] 26)) #[.string ⟨#[49]⟩] 22 (n := w3.heap.size + 1 + 1) (by simp)).alloc (.cells #[.nilFunc] 65))
  have XD := hid (((Blk.made (w3.alloc (.cells #[.slice a3 vs.length c3] 63)) #[.slice none 0 0] 26 (n := w3.heap.size + 1) (by simp)).alloc (.cells #[.string ⟨#[49]⟩] 22)).alloc (.cells #[.nilFunc] 65))
  have XL := hid ((((Blk.new w3 #[.slice a3 vs.length c3] 63).alloc (.cells #[.slice none 0 0] 26)).alloc (.cells #[.string ⟨#[49]⟩] 22)).alloc (.cells #[.nilFunc] 65))
  have XC := hid ((((X3.out.alloc (.cells #[.slice a3 vs.length c3] 63)).alloc (.cells #[.slice none 0 0] 26)).alloc (.cells #[.string ⟨#[49]⟩] 22)).alloc (.cells #[.nilFunc] 65))
  have BD := hid (((((Below.refl w3.heap.size w3).alloc (Nat.le_refl _) (.cells #[.slice a3 vs.length c3] 63)).alloc (by simp) (.cells #[.slice none 0 0] 26)).alloc (by simp <;> omega) (.cells #[.string ⟨#[49]⟩] 22)).alloc (by simp <;> omega) (.cells #[.nilFunc] 65))
  have ZS := hid (show ((((w3.alloc (.cells #[.slice a3 vs.length c3] 63)).alloc (.cells #[.slice none 0 0] 26)).alloc (.cells #[.string ⟨#[49]⟩] 22)).alloc (.cells #[.nilFunc] 65)).heap.size = w3.heap.size + 1 + 1 + 1 + 1 by simp)
  rw [hG] at XE XR XD XL ZS S3
  have s3 := S3.out
  go_upto_region 13 with fail
  obtain ⟨W0, hW0⟩ : ∃ W, ((((w3.alloc (.cells #[.slice a3 vs.length c3] 63)).alloc (.cells #[.slice none 0 0] 26)).alloc (.cells #[.string ⟨#[49]⟩] 22)).alloc (.cells #[.nilFunc] 65)) = W := ⟨_, rfl⟩
  rw [hW0] at XE XR XD XL XC BD ZS ⊢
  clear hW0
  have e0 := XE.out.cell 0
  have e1 := XE.out.free 0
  simp at e0
  have e2 := (XE.out.set 0 (.func (.func 28) #[] #[.pointer (some ⟨w.heap.size, 0, none⟩), .pointer (some ⟨G + 1, 0, none⟩), .pointer (some ⟨G + 1 + 1, 0, none⟩), .pointer (some ⟨G, 0, none⟩), .pointer (some ⟨G + 1 + 1 + 1, 0, none⟩)])).cell 0
  simp at e2
  have hsf := fun (ad : Addr) (cs : Array Value) (V : World) => run_store Tryz.prog V ad (.func (.func 28) #[] cs) .plain rfl
  clear hG
  go_wp2_with fail
  clear hsf
  obtain ⟨W1, hW1⟩ : ∃ W, W0.setCell ⟨G + 1 + 1 + 1, 0, none⟩ (.func (.func 28) #[] #[.pointer (some ⟨w.heap.size, 0, none⟩), .pointer (some ⟨G + 1, 0, none⟩), .pointer (some ⟨G + 1 + 1, 0, none⟩), .pointer (some ⟨G, 0, none⟩), .pointer (some ⟨G + 1 + 1 + 1, 0, none⟩)]) = W := ⟨_, rfl⟩
  have YE : Hid (Blk W1 (G + 1 + 1 + 1) #[.func (.func 28) #[] #[.pointer (some ⟨w.heap.size, 0, none⟩), .pointer (some ⟨G + 1, 0, none⟩), .pointer (some ⟨G + 1 + 1, 0, none⟩), .pointer (some ⟨G, 0, none⟩), .pointer (some ⟨G + 1 + 1 + 1, 0, none⟩)]] 65) := by rw [← hW1]; show Blk _ _ _ _; have := XE.out.set 0 (.func (.func 28) #[] #[.pointer (some ⟨w.heap.size, 0, none⟩), .pointer (some ⟨G + 1, 0, none⟩), .pointer (some ⟨G + 1 + 1, 0, none⟩), .pointer (some ⟨G, 0, none⟩), .pointer (some ⟨G + 1 + 1 + 1, 0, none⟩)]); simpa using this
  have YR : Hid (Blk W1 (G + 1 + 1) #[.string ⟨#[49]⟩] 22) := by rw [← hW1]; exact XR.out.other (by simp) _
  have YD : Hid (Blk W1 (G + 1) #[.slice none 0 0] 26) := by rw [← hW1]; exact XD.out.other (by simp <;> omega) _
  have YL : Hid (Blk W1 G #[.slice a3 vs.length c3] 63) := by rw [← hW1]; exact XL.out.other (by simp <;> omega) _
  have YC : Hid (Blk W1 w.heap.size #[.slice s L cp] 24) := by rw [← hW1]; exact XC.out.other (by simp <;> omega) _
  have BW : Hid (Below w3.heap.size w3 W1) := by rw [← hW1]; exact BD.out.setCell (by rw [HG.out]; simp <;> omega) _
  have ZW : Hid (W1.heap.size = G + 1 + 1 + 1 + 1) := by rw [← hW1]; show (World.setCell _ _ _).heap.size = _; rw [World.size_setCell]; exact ZS.out
  rw [hW1]
  clear e0 e1 e2 XE XR XD XL XC BD ZS hW1
  have zw := ZW.out
  have hES : ExS w W1 (G + 1) (G + 1 + 1) [] (2 ^ M) M W1 := by
    refine ⟨by omega, by omega, by omega, by omega, by omega, by omega, Nat.le_refl _, fun _ _ _ _ => rfl, ⟨_, YD.out, World.ownsRow_nil _ _ _ _⟩, ?_, ?_⟩
    · rw [dy_full]; exact YR.out
    · exact B3.out.trans (BW.out.mono (by rw [HG.out]; exact s3))
  have hrl : PRow W1 (.slice a3 vs.length c3) (vs.map fun v => (v, dyB (g v) n)) := P3.out.call BW.out
  have hrc : Row W1 (.slice s L cp) (zs c) := HV.out.call hES.bel
  have hap : ∀ k, (c ≠ [] ∧ (Value.slice s L cp).ownBlock = some k) ∨ (vs ≠ [] ∧ (Value.slice a3 vs.length c3).ownBlock = some k) → k ≠ G + 1 ∧ k ≠ G + 1 + 1 := fun k hk => by
    rcases hk with ⟨h1, h2⟩ | ⟨h1, h2⟩
    · have := HCAP.out k h1 h2; omega
    · have : k < w3.heap.size := (O3.out.lt k h2).2
      rw [HG.out] at this; omega
  have HX0 := na_ext w W1 w.heap.size (G + 1) (G + 1 + 1) G (G + 1 + 1 + 1) (.slice s L cp) (.slice a3 vs.length c3) c g n vs.length T vs M YC.out hrc YL.out hrl YE.out ⟨by omega, by omega, by omega, by omega, by omega, by omega⟩ hap HL.out.l HSUM.out HTZ.out HGV.out rfl (by have := HNV.out; have := HN32.out; omega) HCR.out HCL.out HM.out (by have := HM5.out; have := HM.out; omega) L 0 [] 1 [] (2 ^ M) W1 rfl (by rw [HLC.out]; omega) hES (by rw [Nat.mul_zero]; exact Nat.le_refl _) (by have := HPW.out; rw [HLC.out] at this; exact this) (Nat.le_refl _) (by have := HNVP.out; rw [HLC.out] at this; simp; omega) (by simp)
  rw [Nat.mul_zero, dy_one, List.nil_append, List.drop_zero] at HX0
  have hrd := HRD.out
  rw [HLC.out] at hrd
  rw [hrd] at HX0
  have HX := hid HX0
  have LD : Hid (vs.length ^ L = (nyD g vs M c [] 1).length) := by show _ = _; rw [nyD_length, HLC.out]
  clear hES hrl hrc hap HX0 hrd YE YR YD YL YC X3 U2 P3 O3
  refine HX.out.mono ?_; rintro e w4 ⟨⟨uu, rfl⟩, hE4⟩
  have E4 := hid hE4
  clear hE4
  by_cases hR0 : R = 0
  · have r0 := E4.out.rr.cell 0
    rw [hR0, dy_zero] at r0
    simp at r0
    have hPP := HPP.out
    rw [if_pos hR0, List.append_nil] at hPP
    have EF := hid E4.out
    rw [← hPP] at EF
    have HFL : Hid ((nyP g vs n c).length ≤ 1000) := by show _ ≤ _; rw [hPP]; have := HDL.out; omega
    have HPOS : Hid (0 < (nyP g vs n c).length) := by
      show 0 < _
      rw [hPP, ← LD.out]
      have h1 := HRD.out
      rw [HLC.out, hR0, Nat.one_mul] at h1
      have h2 := HPW.out
      rw [HLC.out, Nat.one_mul] at h2
      have h3 : 0 < 2 ^ M := Nat.pow_pos (by omega)
      by_cases hL0 : L = 0
      · rw [hL0, Nat.pow_zero]; omega
      · refine Nat.pow_pos (Nat.pos_of_ne_zero fun hv0 => ?_)
        have h4 : T = 0 := by rw [← HSUM.out, List.length_eq_zero_iff.1 hv0]; rfl
        rw [h4, Nat.zero_pow (by omega)] at h1
        omega
    obtain ⟨VV, hVV⟩ : ∃ V, w4 = V := ⟨_, rfl⟩
    subst hVV
    clear hPP hR0
    obtain ⟨vd, h1, h2⟩ := EF.out.d
    obtain ⟨gd, cap, rfl, -, -⟩ := h2.form HPOS.out
    have y1 := h1.cell 0
    simp at y1
    have hlt1 := EF.out.ltd
    have hfl := HFL.out
    rcases h2.2 with ⟨e1, _⟩ | ⟨g', cap', cur, e1, hgb, hgh, p1, p2, p3, p4⟩
    · simp at e1
    simp only [Value.slice.injEq, Option.some.injEq, Addr.mk.injEq, and_true, true_and] at e1
    obtain ⟨rfl, rfl⟩ := e1
    have hSM := s_SortM 33 gd cap W1.heap.size (nyP g vs n c).toArray w4 cur hgb hgh (by simp; omega) p2 p3 (by simp; exact p4) (by simp; omega) (by simpa using HND.out) (enters_of Tryz.func33 (by kernel_rfl) rfl) (fun x y W => na_order x y W)
    simp only [List.size_toArray] at hSM
    have HSM := hid hSM
    obtain ⟨FL, hFLe⟩ : ∃ k, (nyP g vs n c).length = k := ⟨_, rfl⟩
    rw [hFLe] at HSM y1
    clear hSM p1 p2 p3 p4 hgh hgb hfl h1 h2 hFLe
    go_wp2_with fail
    refine HSM.out.mono ?_; rintro e w8 ⟨rfl, ho8, hb8⟩
    have y8 := (hb8.cell (p := ⟨G + 1, 0, none⟩) hlt1).trans y1
    have M8 := hid (MRow.of_owns ho8)
    have B8 := hid (EF.out.bel.trans (hb8.mono EF.out.big))
    clear ho8 hb8 y1
    go_wp2_with fail
    go_ret2
    exact ⟨⟨_, rfl, M8.out⟩, B8.out⟩
  · have hRle := HRL.out
    have hne : dyB R M ≠ ⟨#[48]⟩ := fun e => hR0 ((dy_eq_zero hRle (by have := HM5.out; have := HM.out; omega)).1 e)
    have r0 := E4.out.rr.cell 0
    simp at r0
    obtain ⟨RT, hRT⟩ : ∃ s, dyB R M = s := ⟨_, rfl⟩
    rw [hRT] at r0 hne
    have t0 : (RT.toList == [48]) = false := ne_lit hne
    have t1 : (RT.toList != [48]) = true := by rw [bne, t0]; rfl
    have hPP := HPP.out
    rw [if_neg hR0, hRT] at hPP
    have HPP2 := hid hPP
    obtain ⟨v0, h1, h2⟩ := E4.out.d
    have H1 := hid h1; have H2 := hid h2
    have y0 := h1.cell 0
    have f0 := h1.free 0
    simp at y0
    have hDl := HDL.out
    clear h1 h2 hRle hne hPP hR0 hRT
    go_wp2_with (at_builtin; refine wpList_append_own _ rfl _ _ 26 rfl W1.heap.size 40 i0 (.agg #[.string ⟨#[]⟩, .string ⟨#[]⟩]) 2 32 Tryz.underlying26 hi hz0 hz1 hz2 rfl (by decide) _ (nyD g vs M c [] 1).length _ rfl (H2.out.alloc _) ⟨w4.heap.size, 0, none⟩ 1 1 [.string ⟨#[108, 97, 116, 101]⟩, .string RT] rfl rfl (cell_two_new w4 (.string ⟨#[108, 97, 116, 101]⟩) (.string RT) 40) (by simp [Value.oneCell']) (by unfold maxLen; omega) (by omega) (by have := E4.out.size; simp; omega) ?_
                 intro v' w5 hown hgrow _
                 obtain ⟨g5, cap5, rfl⟩ := ownsRow_succ hown
                 have E5 := hid (E4.out.app (p := (⟨#[108, 97, 116, 101]⟩, RT)) H1.out H2.out hown hgrow)
                 have n1 : v0.ownBlock ≠ some (G + 1) := fun e => by have := (H2.out.lt _ e).1; have := E4.out.ltd; omega
                 have k0 := ((H1.out.alloc (.cells #[.string ⟨#[108, 97, 116, 101]⟩, .string RT] 40)).grown hgrow n1).cell 0
                 have k1 := ((H1.out.alloc (.cells #[.string ⟨#[108, 97, 116, 101]⟩, .string RT] 40)).grown hgrow n1).free 0
                 simp at k0
                 have k2 : (w5.setCell ⟨G + 1, 0, none⟩ (.slice (some ⟨g5, 0, none⟩) ((nyD g vs M c [] 1).length + 1) cap5)).cell? ⟨G + 1, 0, none⟩ = some (.slice (some ⟨g5, 0, none⟩) ((nyD g vs M c [] 1).length + 1) cap5) := by
                   have := (((H1.out.alloc (.cells #[.string ⟨#[108, 97, 116, 101]⟩, .string RT] 40)).grown hgrow n1).set 0 (.slice (some ⟨g5, 0, none⟩) ((nyD g vs M c [] 1).length + 1) cap5)).cell 0
                   simpa using this
                 have O5 := hid (show (w5.setCell ⟨G + 1, 0, none⟩ (.slice (some ⟨g5, 0, none⟩) ((nyD g vs M c [] 1).length + 1) cap5)).ownsRow W1.heap.size 40 2 (.slice (some ⟨g5, 0, none⟩) ((nyD g vs M c [] 1).length + 1) cap5) ((nyD g vs M c [] 1).length + 1) (massC (nyP g vs n c)) from by
                   have h3 := ownsRow_setCell_below (a := ⟨G + 1, 0, none⟩) hown E4.out.ltd (.slice (some ⟨g5, 0, none⟩) ((nyD g vs M c [] 1).length + 1) cap5)
                   rw [HPP2.out, massC_append]
                   exact h3)
                 have hl : (nyD g vs M c [] 1).length + 1 = (nyP g vs n c).length := by rw [HPP2.out, List.length_append]; rfl
                 rw [hl] at E5 O5 k2
                 obtain ⟨V5, hV5⟩ : ∃ V, w5.setCell ⟨G + 1, 0, none⟩ (.slice (some ⟨g5, 0, none⟩) (nyP g vs n c).length cap5) = V := ⟨_, rfl⟩
                 rw [hV5] at E5 O5 k2
                 have HV5 := hid hV5
                 clear hown hgrow n1 y0 hV5)
    rw [HV5.out]
    have h2 := O5.out
    have y1 := k2
    have hlt1 := E5.out.ltd
    have hfl : (nyP g vs n c).length ≤ 1000 := by have := HDL.out; omega
    rcases h2.2 with ⟨e1, _⟩ | ⟨g', cap', cur, e1, hgb, hgh, p1, p2, p3, p4⟩
    · simp at e1
    simp only [Value.slice.injEq, Option.some.injEq, Addr.mk.injEq, and_true, true_and] at e1
    obtain ⟨rfl, rfl⟩ := e1
    have hSM := s_SortM 33 g5 cap5 W1.heap.size (nyP g vs n c).toArray V5 cur hgb hgh (by simp; omega) p2 p3 (by simp; exact p4) (by simp; omega) (by simpa using HND.out) (enters_of Tryz.func33 (by kernel_rfl) rfl) (fun x y W => na_order x y W)
    simp only [List.size_toArray] at hSM
    have HSM := hid hSM
    obtain ⟨FL, hFLe⟩ : ∃ k, (nyP g vs n c).length = k := ⟨_, rfl⟩
    rw [hFLe] at HSM y1 ⊢
    clear hSM p1 p2 p3 p4 hgh hgb hfl h2 hFLe k2 hl k0 k1 r0 f0
    try go_wp2_with fail
    refine HSM.out.mono ?_; rintro e w8 ⟨rfl, ho8, hb8⟩
    have y8 := (hb8.cell (p := ⟨G + 1, 0, none⟩) hlt1).trans y1
    have M8 := hid (MRow.of_owns ho8)
    have B8 := hid (E5.out.bel.trans (hb8.mono E5.out.big))
    clear ho8 hb8 y1
    go_wp2_with fail
    go_ret2
    exact ⟨⟨_, rfl, M8.out⟩, B8.out⟩
set_option maxRecDepth 100000 in
set_option maxHeartbeats 4000000 in
theorem na_Law (w : World) (v : Value) (c : List Int) (a : ByteArray) (n : Int) (hv : Row w v (zs c)) (ha : a.size ≤ 100000) (h9 : nlE c a n = 0 → (2 * n.toNat + 1) ^ c.length ≤ 900) (hL : LayB w) :
    Calls Tryz.prog 8 #[v, .string a, .int .i64 n] w fun e w' => (∃ u, e = .returned (.tuple #[u, .int .i64 (nlE c a n)]) ∧ MRow w' u (nlR c a n)) ∧ Below w.heap.size w w' := by
  by_cases h0 : nlE c a n = 0
  · obtain ⟨-, -, hn0, -, -⟩ := nlE_ok h0
    obtain ⟨m, rfl⟩ : ∃ m : Nat, n = (m : Nat) := ⟨n.toNat, by omega⟩
    have h := h9 h0
    rw [Int.toNat_natCast] at h
    rw [h0]
    exact na_Law_ok w v c a m hv ha h0 h hL
  · have e2 : nlR c a n = [] := if_neg h0
    rw [e2]
    have HCK := fun V hV => hid (na_check V v c hV)
    have HTL := fun V hV => hid (g_TwoLaw V a n ha hV)
    obtain ⟨s, cp, rfl, q1, q2, q3⟩ := hv.openZ
    have HV := hid hv; have HL := hid hL
    obtain ⟨L, hLc⟩ : ∃ L, c.length = L := ⟨_, rfl⟩
    unfold nlE at h0 ⊢
    obtain ⟨z, hz⟩ : ∃ z, zE c = z := ⟨_, rfl⟩
    have hz0 := hz
    rw [hz] at h0 ⊢
    simp only [hz, hLc] at HCK
    rw [hLc] at HV h0 q1 ⊢
    have A0 := hid ((Below.refl w.heap.size w).alloc (Nat.le_refl _) (.cells #[.slice s L cp] 24))
    have X0 := hid (Blk.new w #[.slice s L cp] 24)
    by_cases c0 : z = 0
    case neg =>
      rw [if_pos c0]
      have t0 : (z == 0) = false := by rw [beq_eq_false_iff_ne]; exact c0
      clear hv q3 hLc hz hz0 h0 c0 ha hL h9
      go_enter Tryz.func8, Tryz.ntmps8
      go_wp2_with fail
      refine (HCK _ (HV.out.call A0.out)).out.mono ?_; rintro e w1 ⟨rfl, rfl⟩
      go_wp2_with fail
      go_ret2
      exact ⟨⟨_, rfl, MRow.nil _⟩, A0.out⟩
    subst c0
    rw [if_neg (by simp)] at h0 ⊢
    obtain ⟨y, hy⟩ : ∃ y, glE a n 32 = y := ⟨_, rfl⟩
    obtain ⟨LR, hLR⟩ : ∃ y, glR a n true = y := ⟨_, rfl⟩
    have hy0 := hy
    rw [hy] at h0 ⊢
    simp only [hy, hLR] at HTL
    obtain ⟨LL, hLL⟩ : ∃ k, LR.length = k := ⟨_, rfl⟩
    have HLL := hid hLL
    by_cases c1 : y = 0
    case neg =>
      rw [if_pos c1]
      have t0 : (y == 0) = false := by rw [beq_eq_false_iff_ne]; exact c1
      clear hv q3 hLc hz hz0 h0 c1 ha hL h9 hy hy0 hLR hLL
      go_enter Tryz.func8, Tryz.ntmps8
      go_wp2_with fail
      refine (HCK _ (HV.out.call A0.out)).out.mono ?_; rintro e w1 ⟨rfl, rfl⟩
      go_wp2_with fail
      refine (HTL _ (HL.out.call A0.out).l).out.mono ?_; rintro e w2 ⟨⟨u2, rfl, hu2⟩, hb2⟩
      have B2 := hid (bnext A0.out hb2)
      obtain ⟨ad, cd, rfl, -, -, -⟩ := hu2.ex
      clear hu2 hb2
      go_wp2_with fail
      go_ret2
      exact ⟨⟨_, rfl, MRow.nil _⟩, B2.out⟩
    subst c1
    rw [if_neg (by simp)] at h0 ⊢
    have h5 : 5000 < (2 * n.toNat + 1) ^ L := Classical.byContradiction fun h => h0 (if_neg h)
    rw [if_pos h5]
    obtain ⟨-, hn0, hn32⟩ := glE_ok hy0
    obtain ⟨m, rfl⟩ : ∃ m : Nat, n = (m : Nat) := ⟨n.toNat, by omega⟩
    rw [Int.toNat_natCast] at h5
    have hl256 : L ≤ 256 := by rw [← hLc]; exact (zE_zero hz0).1
    have HMY := fun V => hid (na_many V (2 * m + 1) L (by omega) (by omega) (by omega))
    rw [decide_eq_true h5] at HMY
    have wm1 : IntKind.i64.wrap (2 * (m : Int)) = 2 * (m : Int) := by rw [IntWalk.i64_in _ ⟨by omega, by omega⟩]
    have wm2 : IntKind.i64.wrap (2 * (m : Int) + 1) = ((2 * m + 1 : Nat) : Int) := by rw [IntWalk.i64_in _ ⟨by omega, by omega⟩]; omega
    obtain ⟨N2, hN2⟩ : ∃ N, 2 * m + 1 = N := ⟨_, rfl⟩
    rw [hN2] at HMY wm2
    clear hv q3 hLc hz hz0 h0 ha hL h9 hy hy0 hLR hLL h5 hn0 hn32 hl256 hN2
    go_enter Tryz.func8, Tryz.ntmps8
    go_wp2_with fail
    refine (HCK _ (HV.out.call A0.out)).out.mono ?_; rintro e w1 ⟨rfl, rfl⟩
    obtain ⟨w0, hw0⟩ : ∃ W, w.alloc (.cells #[.slice s L cp] 24) = W := ⟨_, rfl⟩
    rw [hw0] at A0 X0 ⊢
    clear hw0
    go_wp2_with fail
    refine (HTL _ (HL.out.call A0.out).l).out.mono ?_; rintro e w2 ⟨⟨u2, rfl, hu2⟩, hb2⟩
    have B2 := hid (bnext A0.out hb2)
    have x20 := (X0.out.call hb2).cell 0
    simp at x20
    obtain ⟨ad, cd, rfl, -, -, -⟩ := hu2.ex
    clear hu2 hb2
    go_wp2_with fail
    refine (HMY _).out.mono ?_; rintro e w3 ⟨rfl, rfl⟩
    go_wp2_with fail
    go_ret2
    exact ⟨⟨_, rfl, MRow.nil _⟩, B2.out⟩
end Go.Proofs.YtgphopkifomffaaGreatDoor
namespace Go.Proofs.YtgphopkifomffaaGreatDoor
open Go.RowKit Go.Shelf
open Go.Lib (decDigits nDigits)
set_option linter.unusedVariables false
set_option linter.unusedSimpArgs false
set_option maxRecDepth 100000 in
set_option maxHeartbeats 2000000 in
theorem na_words (w : World) (v : Value) (l : List ByteArray) (m : Int) (h : Row w v (strs l)) (hsz : ∀ b ∈ l, b.size ≤ 100000000) :
    Calls Tryz.prog 37 #[v, .int .i64 m] w fun e w' => e = .returned (.int .i64 (wdE l m)) ∧ Below w.heap.size w w' := by
  obtain ⟨a, c, rfl, h1, h2, h3⟩ := h.openS
  obtain ⟨n, hn⟩ : ∃ n, l.length = n := ⟨_, rfl⟩
  unfold wdE
  rw [hn] at h1 ⊢
  by_cases hm : (n : Int) = m
  · rw [if_pos hm]
    have H3 := hid h3; have HN := hid hn; have HSZ := hid hsz
    have q0 : ((n : Int) == m) = true := by rw [beq_iff_eq]; exact hm
    obtain ⟨X, hX⟩ : ∃ X : Int, bsE l = X := ⟨_, rfl⟩
    have HX := hid hX
    rw [hX]
    subst hm
    clear h h3 hn hX hsz q0
    go_enter Tryz.func37, Tryz.ntmps37
    go_wp2_with fail
    go_loopw [14] (fun ii wr => ∃ i : Nat, ii = .int .i64 i ∧ i ≤ n ∧ Hid (∀ (j : Nat) (b : ByteArray), j < i → l[j]? = some b → chkE b = 0) ∧ Hid (Below w.heap.size w wr)) (fun ii wr => n - (intOf ii).toNat)
    case atStart => exact ⟨0, rfl, Nat.zero_le _, fun j b hj => absurd hj (by omega), Below.refl _ _⟩
    case round =>
      obtain ⟨i, rfl, hi, hI, hB⟩ := hrel
      by_cases hlt : i < n
      · obtain ⟨x, hx⟩ : ∃ x, l[i]? = some x := ⟨_, List.getElem?_eq_getElem (by rw [HN.out]; exact hlt)⟩
        obtain ⟨g, o, rfl, hg, hc⟩ := H3.out i x hx
        have d0 := (hB.out.cell (p := ⟨g, o + i, none⟩) hg).trans hc
        have b1 : (0 : Int) ≤ (i : Int) := by omega
        have b2 : (i : Int) < (n : Int) := by omega
        have wi : IntKind.i64.wrap ((i : Int) + 1) = (i : Int) + 1 := by rw [IntWalk.i64_in _ ⟨by omega, by omega⟩]
        have PN := fun W => hid (b_Check W x (HSZ.out x (List.mem_of_getElem? hx)))
        have hce := chkE_err x
        obtain ⟨y, hy⟩ : ∃ y, bitE x = y := ⟨_, rfl⟩
        rw [hy] at PN hce
        have HXX := hid hx; have HC := hid hce
        have hdrop : l.drop i = x :: l.drop (i + 1) := by
          have hil : i < l.length := by rw [HN.out]; exact hlt
          rw [List.drop_eq_getElem_cons hil]
          have := List.getElem?_eq_getElem hil
          rw [hx] at this
          rw [Option.some.inj this]
        have HD := hid hdrop
        clear hx hy hc hdrop hce
        by_cases hy0 : y = 0
        · subst hy0
          by_cases hl : 256 < x.size
          · have q2 : decide ((256 : Int) < (x.size : Int)) = true := by simp; omega
            have HE : Hid (X = 4) := by
              show X = 4
              have e : chkE x = 4 := by rw [HC.out, if_neg (by simp), if_pos hl]
              rw [← HX.out, bsE_at hI.out, HD.out, bsE, e, if_pos (by decide)]
            clear hl
            go_wp2_with fail
            refine (PN _).out.mono ?_; rintro e w1 ⟨rfl, hb1⟩
            have y1 := hid (bnext hB.out hb1); clear hb1
            go_wp2_with fail
            go_ret
            exact ⟨by rw [HE.out]; rfl, y1.out⟩
          · have q2 : decide ((256 : Int) < (x.size : Int)) = false := by simp; omega
            have HE : Hid (chkE x = 0) := by
              show chkE x = 0
              rw [HC.out, if_neg (by simp), if_neg hl]
            clear hl
            go_wp2_with fail
            refine (PN _).out.mono ?_; rintro e w1 ⟨rfl, hb1⟩
            have y1 := hid (bnext hB.out hb1); clear hb1
            go_wp2_with fail
            go_roundw
            case rel => exact ⟨i + 1, rfl, by omega, fun j b hj hjb => by
              by_cases e : j = i
              · subst e; rw [HXX.out] at hjb; cases hjb; exact HE.out
              · exact hI.out j b (by omega) hjb, y1.out⟩
            case measure => simp [intOf] <;> omega
        · have q3 : (y == 0) = false := by rw [beq_eq_false_iff_ne]; exact hy0
          have HE : Hid (X = y) := by
            show X = y
            have e : chkE x = y := by rw [HC.out, if_pos hy0]
            rw [← HX.out, bsE_at hI.out, HD.out, bsE, e, if_pos hy0]
          clear hy0
          go_wp2_with fail
          refine (PN _).out.mono ?_; rintro e w1 ⟨rfl, hb1⟩
          have y1 := hid (bnext hB.out hb1); clear hb1
          go_wp2_with fail
          go_ret
          exact ⟨by rw [HE.out]; rfl, y1.out⟩
      · obtain rfl : i = n := by omega
        have HE : Hid (X = 0) := by
          show X = 0
          have hd : l.drop i = [] := List.drop_eq_nil_of_le (by rw [HN.out]; exact Nat.le_refl _)
          rw [← HX.out, bsE_at hI.out, hd]; rfl
        go_wp2_with fail
        go_ret
        exact ⟨by rw [HE.out]; rfl, hB.out⟩
  · rw [if_neg hm]
    have q0 : ((n : Int) == m) = false := by rw [beq_eq_false_iff_ne]; exact hm
    clear h h3 hn hsz hm
    go_enter Tryz.func37, Tryz.ntmps37
    go_wp2_with fail
    go_ret
    exact ⟨rfl, Below.refl _ _⟩
end Go.Proofs.YtgphopkifomffaaGreatDoor
namespace Go.Proofs.YtgphopkifomffaaGreatDoor
open Go.RowKit Go.Shelf
set_option linter.unusedVariables false
set_option linter.unusedSimpArgs false
attribute [local go_sem] Oper.semAt_some
theorem keepsF_below {B : Nat} {W W' : World} (h : Below W.heap.size W W') : KeepsFrom B W W' := ⟨h.size, fun k o hk ho hc => (h.block k (Array.getElem?_eq_some_iff.1 ho).1).trans ho⟩
end Go.Proofs.YtgphopkifomffaaGreatDoor
namespace Go.Proofs.YtgphopkifomffaaGreatDoor
open Go.RowKit Go.Shelf
open Go.Lib (decDigits nDigits)
set_option linter.unusedVariables false
set_option linter.unusedSimpArgs false
attribute [local go_sem] Oper.semAt_some
set_option maxRecDepth 100000 in
set_option maxHeartbeats 1000000 in
theorem na_pairs (w : World) (s : Option Addr) (n k : Nat) (t : Option Addr) (n2 k2 : Nat) :
    Calls Tryz.prog 38 #[.slice s n k, .slice t n2 k2] w fun e w' => e = .returned (.func (.func 71) #[] #[.pointer (some ⟨w.heap.size, 0, none⟩), .pointer (some ⟨w.heap.size + 1, 0, none⟩)]) ∧ w' = (w.alloc (.cells #[.slice s n k] 24)).alloc (.cells #[.slice t n2 k2] 30) := by
  go_enter Tryz.func38, Tryz.ntmps38
  go_wp2_with fail
  go_ret
  exact ⟨rfl, rfl⟩
def prNext (c : List Int) (bs : List ByteArray) (pre : List (Int × ByteArray)) (x : Int × ByteArray) : Prop := c[pre.length]? = some x.1 ∧ bs[pre.length]? = some x.2
set_option maxRecDepth 100000 in
set_option maxHeartbeats 4000000 in
theorem pairs_feeds {Kp : World → World → Prop} (n : Nat) (hn : 1 ≤ n) (w : World) (bl bm : Nat) (vc vb : Value) (c : List Int) (bs : List ByteArray) (hlen : c.length = bs.length) (hcl : c.length ≤ 256)
    (hKr : ∀ W, Kp W W) (hKt : ∀ {A B C : World}, Kp A B → Kp B C → Kp A C)
    (hread : ∀ W1 W2, Below w.heap.size w W1 → Kp W1 W2 → W2.cell? ⟨bl, 0, none⟩ = some vc ∧ W2.cell? ⟨bm, 0, none⟩ = some vb ∧ Row W2 vc (zs c) ∧ Row W2 vb (strs bs)) (hKb : ∀ W1 W2, Below W1.heap.size W1 W2 → Kp W1 W2) :
    Feeds n Tryz.prog 71 #[.pointer (some ⟨bl, 0, none⟩), .pointer (some ⟨bm, 0, none⟩)] (fun x : Int × ByteArray => #[.int .i64 x.1, .string x.2]) Kp (prNext c bs) (fun xs => xs.length = c.length) (fun _ => True) w := by
  intro l J Jx W hW hJ hJx hY h0
  have HR := hid hread; have HY := hid hY; have HW := hid hW; have HJ := hid hJ; have HJx := hid hJx
  have HKr := hid hKr; have HKt : Hid (∀ A B C : World, Kp A B → Kp B C → Kp A C) := fun A B C h k => hKt h k
  have HKb := hid hKb; have HLN := hid hlen
  obtain ⟨c0, -, r0, -⟩ := hread W W hW (hKr W)
  obtain ⟨s, cp, rfl, q1, q2, -⟩ := r0.openZ
  obtain ⟨N, hN⟩ : ∃ N, c.length = N := ⟨_, rfl⟩
  have HN := hid hN
  rw [hN] at HR c0 q1 hcl
  clear hread hY hW hJ hJx hKr hKt hKb hlen r0 hN
  refine callsIn_of_wp Tryz.func71 rfl trivial ?_ rfl
  simp only [Tryz.ntmps71, List.size_toArray, List.length_cons, List.length_nil, Nat.reduceAdd, Nat.reduceSub, Array.replicate_succ, Array.replicate_zero, List.push_toArray, List.append_toArray, List.nil_append, List.cons_append]
  gi_wp2
  gi_loopw [8] (fun ii wr => ∃ p : List (Int × ByteArray), ii = .int .i64 (p.length : Nat) ∧ p.length ≤ N ∧ Hid (J p wr) ∧ Hid (Kp W wr)) (fun ii wr => N - (intOf ii).toNat)
  case atStart => exact ⟨[], rfl, Nat.zero_le _, h0, HKr.out W⟩
  case round =>
    obtain ⟨pre, rfl, hp, hJ, hK⟩ := hrel
    obtain ⟨i, hi⟩ : ∃ i, pre.length = i := ⟨_, rfl⟩
    have HI := hid hi
    rw [hi] at hp ⊢
    clear hi
    by_cases hlt : i < N
    · obtain ⟨x, hx⟩ : ∃ x, c[i]? = some x := ⟨_, List.getElem?_eq_getElem (by rw [HN.out]; exact hlt)⟩
      obtain ⟨b, hb⟩ : ∃ b, bs[i]? = some b := ⟨_, List.getElem?_eq_getElem (by have := HLN.out; have := HN.out; omega)⟩
      obtain ⟨-, c2, hrow, hrowb⟩ := HR.out W wr HW.out hK.out
      obtain ⟨a', c', e, -, -, hcell⟩ := hrow.openZ
      simp only [Value.slice.injEq] at e
      obtain ⟨rfl, -, rfl⟩ := e
      obtain ⟨g, o, rfl, hg, hc⟩ := hcell i x hx
      obtain ⟨a2, k2, rfl, -, -, hcell2⟩ := hrowb.openS
      obtain ⟨g2, o2, rfl, hg2, hc2⟩ := hcell2 i b hb
      obtain ⟨N2, hN2⟩ : ∃ N2, bs.length = N2 := ⟨_, rfl⟩
      have hi2 : i < N2 := by have := HLN.out; have := HN.out; omega
      rw [hN2] at c2
      have HX := hid hx; have HB := hid hb
      have b1 : (0 : Int) ≤ (i : Int) := by omega
      have b2 : (i : Int) < (N : Int) := by omega
      have b3 : (i : Int) < (N2 : Int) := by omega
      have wi : IntKind.i64.wrap ((i : Int) + 1) = (i : Int) + 1 := by rw [IntWalk.i64_in _ ⟨by omega, by omega⟩]
      have HLT := hid hlt
      have hok : prNext c bs pre (x, b) := ⟨by rw [HI.out]; exact HX.out, by rw [HI.out]; exact HB.out⟩
      have HOK := hid hok
      obtain ⟨fn, tmps, assign, body, hy, hR⟩ := HY.out pre (x, b) wr hok hJ.out
      have HYR := hid hR
      clear hx hb hrow hrowb hcell hcell2 hN2 hi2 hok hR hlt hp hg hg2
      gi_wp2_with fail
      refine HYR.out.mono ?_
      rintro e W3 (⟨rfl, hJ3, hk3⟩ | ⟨rfl, hJx3⟩)
      · have HJ3 := hid hJ3; have HK3 := hid (HKt.out _ _ _ hK.out hk3)
        clear hJ3 hk3 hy
        gi_wp2_with fail
        go_roundw
        case rel => exact ⟨pre ++ [(x, b)], by rw [List.length_append, HI.out]; rfl, by rw [List.length_append, HI.out]; exact HLT.out, HJ3, HK3⟩
        case measure => simp [intOf] <;> (have := HLT.out; omega)
      · clear hy
        gi_wp2_with fail
        refine bodyPost_ret (results_none rfl _ _ _) rfl ?_
        exact ⟨⟨_, rfl⟩, .inr ⟨_, trivial, hJx3⟩⟩
    · obtain rfl : i = N := by omega
      gi_wp2_with fail
      refine bodyPost_end (results_none rfl _ _ _) rfl ?_
      exact ⟨⟨_, rfl⟩, .inl ⟨pre, by rw [HI.out, HN.out], hJ.out⟩⟩
end Go.Proofs.YtgphopkifomffaaGreatDoor
namespace Go.Proofs.YtgphopkifomffaaGreatDoor
open Go.RowKit
open Go.Lib (decDigits nDigits)
set_option linter.unusedVariables false
theorem wT_bound (a b : ByteArray) (hb : b.size ≤ 256) : -256 ≤ (wT a b).2.1 ∧ (wT a b).2.1 ≤ 256 := by
  unfold wT
  split
  · rename_i h
    have he : gPE a = 0 := by
      unfold gE at h
      split at h
      · rename_i h2; exact absurd h h2
      · rename_i h2; exact Classical.byContradiction h2
    have hl : b.data.toList.length = b.size := list_size b
    obtain ⟨u, _, h2⟩ := drT_is (gPE_ok he).2 true b.data.toList
    have e : twoT (bN (cW a)) (bN (qD a)) b.data.toList = drT (bN (cW a)) (bN (qD a)) true b.data.toList := rfl
    rw [e]
    rcases h2 with ⟨-, h2⟩ | ⟨v, h3, h4, -, h2⟩
    · rw [h2]; simp
    · rw [h2]; simp; omega
  · simp
end Go.Proofs.YtgphopkifomffaaGreatDoor
namespace Go.Proofs.YtgphopkifomffaaGreatDoor
open Go.RowKit Go.Shelf
open Go.Lib (decDigits nDigits)
set_option linter.unusedVariables false
set_option linter.unusedSimpArgs false
theorem info_intO : (Tryz.prog.info? 3).map (fun i => (i.zero, i.size, i.bytes)) = some (some (.int .i64 0), 1, 8) := by kernel_rfl
end Go.Proofs.YtgphopkifomffaaGreatDoor
