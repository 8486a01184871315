/- Texts that the proof rests on, merged: R1k, R1n, R1q, R1f, R1g, R1h, R1i, R1j, R2a, R2r, R2h, R2b, R1c. -/
import Derived.Test.YtpehhgkghgbhiaaGreatDoorKj6
import Derived.IntWalk
import Derived.Deep.DeepCutAuto
import Derived.Deep.CutBlock
import Derived.Deep.RegionHeld3
namespace Go.Proofs.YtpehhgkghgbhiaaGreatDoor
open Go.RowKit
set_option linter.unusedVariables false
set_option maxRecDepth 100000 in
set_option maxHeartbeats 2000000 in
theorem r1_Read (w : World) (s : ByteArray) (hd : allDig s.data.toList) (hs : s.size ≤ 1000000) :
    Calls Tryz.prog 44 #[.string s] w fun e w' => RetN .i64 (dv s.data.toList) e w' ∧ Below w.heap.size w w' := by
  obtain ⟨i0, hi, hz0, hz1, hz2⟩ := info_parts info_int
  have HD := hid hd; clear hd
  have hsl := hid (show s.data.toList.length = s.size from by simp)
  go_enter Tryz.func44, Tryz.ntmps44
  go_wp2_with fail
  go_loopw [3, 4, 5, 6] (fun o ee nn ii wr => ∃ (l : List Nat) (t : Int) (e : Nat), ee = .int .i64 t ∧ t ≤ s.size ∧ -9 < t ∧ e = t.toNat ∧ l.length ≤ s.size ∧ l.length + e ≤ s.size ∧ Hid (ReadI s.data.toList e l) ∧ Hid (wr.ownsRow w.heap.size 3 1 o l.length (ints .i64 l)) ∧ Hid (Below w.heap.size w wr))
    (fun _ ee _ _ _ => (intOf ee).toNat)
  case atStart => exact ⟨[], _, s.size, rfl, by omega, by omega, by simp, by simp, by simp, by have := ReadI.start s.data.toList; rw [hsl.out] at this; exact this, World.ownsRow_nil _ _ _ _, Below.refl _ _⟩
  case round =>
    obtain ⟨l, t, e, rfl, ht1, ht2, he, hl1, hl2, hR, hO, hB⟩ := hrel
    obtain ⟨ao, co, rfl⟩ := owns_ex hO.out
    by_cases h0 : e = 0
    · have q0 : decide ((0 : Int) < t) = false := by simp; omega
      subst h0
      have hv := hid hR.out.done
      clear he
      go_wp2_with fail
      refine (r1_trim _ _ l hR.out.sm (Row.of_owns hO.out)).mono ?_
      rintro e w1 ⟨⟨v1, rfl, hv1⟩, rfl⟩
      go_wp2_with fail
      go_ret
      exact ⟨⟨v1, rfl, by rw [← hv.out]; exact hv1⟩, hB.out⟩
    · obtain rfl : t = (e : Int) := by omega
      clear he
      have q0 : decide ((0 : Int) < (e : Int)) = true := by simp; omega
      obtain ⟨L, hL⟩ : ∃ L, s.data.toList = L := ⟨_, rfl⟩
      obtain ⟨s0, hs0⟩ : ∃ s0, s0 = e - 9 := ⟨_, rfl⟩
      have HS0 := hid hs0
      have h3 : s0 ≤ e := by omega
      have h4 : e ≤ s0 + 9 := by omega
      have hI : (9 < e ∧ (e : Int) - 9 = (s0 : Int)) ∨ (e ≤ 9 ∧ (0 : Int) = (s0 : Int)) := by omega
      clear hs0
      rcases hI with ⟨h9, hse⟩ | ⟨h9, hse⟩
      all_goals
        have HSE := hid hse
        clear hse
        go_wp2_with fail
        go_loop [5, 6] (fun nn ii => ∃ (i x : Nat), ii = .int .i64 i ∧ nn = .int .i64 x ∧ s0 ≤ i ∧ i ≤ e ∧ x < 1000000000 ∧ Hid (x = dv ((L.drop s0).take (i - s0)))) (fun _ ii => e - (intOf ii).toNat)
        case atStart => exact ⟨s0, 0, by have hh := HSE.out; first | (rw [← hh]; done) | (congr 1; omega), rfl, Nat.le_refl _, h3, by omega, by simp [Hid]⟩
        case round =>
          obtain ⟨i, x, rfl, rfl, hi1, hi2, hx, hxd⟩ := hrel
          by_cases hlt : i < e
          · have hsz : i < s.size := by omega
            have hb := byte_get hsz
            rw [hL] at hb
            have hdig := isDig_iff.1 (HD.out s[i] (List.mem_of_getElem? (by rw [hL]; exact hb)))
            have hd1 := hdig.1; have hd2 := hdig.2
            have hcs := hid (chunk_succ hb hi1)
            have hlt9 := hid (chunk_lt (L := L) (a := s0) (k := i + 1 - s0) (by rw [← hL]; exact HD.out) (by omega))
            clear hb hdig
            go_wp2_with fail
            go_round
            case rel =>
              refine ⟨i + 1, 10 * x + (s[i].toNat - 48), by go_num, ?_, by omega, by omega, ?_, ?_⟩
              · congr 1; omega
              · have := hlt9.out; rw [hcs.out, ← hxd.out] at this; exact this
              · rw [Hid, hcs.out, ← hxd.out]
            case measure => simp [intOf] <;> omega
          · obtain rfl : i = e := by omega
            have HN := hid (hR.out.next HD.out)
            rw [hL, ← HS0.out, ← hxd.out] at HN
            go_wp2_with (at_builtin; refine wpList_append_own _ rfl _ _ 64 rfl w.heap.size 3 i0 (.int .i64 0) 1 8 Tryz.underlying64 hi hz0 hz1 hz2 rfl (by decide) _ l.length _ rfl (hO.out.alloc _) ⟨wr.heap.size, 0, none⟩ 1 1 [.int .i64 (x : Int)] rfl rfl (cell_one_new wr (.int .i64 (x : Int)) 3) (by simp [Value.oneCell']) (by unfold maxLen; omega) (by omega) (by have := hB.out.size; simp; omega) ?_; intro v' w3 hown3 hgrow3 _; have HO3 := hid hown3; have HG3 := hid hgrow3; clear hown3 hgrow3)
            obtain ⟨n1, n2⟩ := own_next hO.out hB.out HO3.out HG3.out
            have N1 := hid n1; have N2 := hid n2; clear n1 n2 HO3 HG3
            obtain ⟨a3, k3, rfl⟩ := owns_ex N1.out
            have hS := HS0.out
            go_wp2_with fail
            go_roundw
            case rel => exact ⟨l ++ [x], _, s0, rfl, by omega, by omega, by omega, by simp <;> omega, by simp <;> omega, by rw [hL]; exact HN, N1, N2⟩
            case measure => simp [intOf] <;> omega
end Go.Proofs.YtpehhgkghgbhiaaGreatDoor
namespace Go.Proofs.YtpehhgkghgbhiaaGreatDoor
open Go.RowKit
open Go.Lib (decDigits nDigits)
set_option linter.unusedVariables false
theorem r1_Write (w : World) (v : Value) (n : Nat) (h : IsN .i64 w v n) (hl : (limbs n).length ≤ 1000000) : Calls Tryz.prog 47 #[v] w fun e w' => e = .returned (numV n) ∧ Below w.heap.size w w' := by
  rcases Nat.eq_zero_or_pos n with rfl | h0
  · exact r1_Write_zero w v h
  · exact r1_Write_pos w v n h h0 hl
theorem r1_Read_num (w : World) (a : Nat) (h : nDigits a ≤ 9000) : Calls Tryz.prog 44 #[.string (numB a)] w fun e w' => RetN .i64 a e w' ∧ Below w.heap.size w w' := by
  have := r1_Read w (numB a) (by rw [numB_list]; exact allDig_dec a) (by rw [numB_size]; omega)
  rwa [numB_list, dv_dec] at this
end Go.Proofs.YtpehhgkghgbhiaaGreatDoor
namespace Go.Proofs.YtpehhgkghgbhiaaGreatDoor
open Go.RowKit
open Go.Lib (decDigits nDigits)
set_option linter.unusedVariables false
/-- What Power returns. -/
def RetPow (n : Nat) (e : Ending) (w' : World) : Prop :=
  (nDigits n ≤ 4000 ∧ ∃ v, e = .returned (.tuple #[v, .bool true]) ∧ IsN .i64 w' v n) ∨ (4000 < nDigits n ∧ e = .returned (.tuple #[.slice none 0 0, .bool false]))
theorem isN_one (w : World) : IsN .i64 (w.alloc (.cells #[.int .i64 1] 3)) (.slice (some ⟨w.heap.size, 0, none⟩) 1 1) 1 := by
  unfold IsN
  rw [limbs_one]
  exact Row.of_blk (b := w.heap.size) (n := 1) (c := 1) (cs := #[.int .i64 1]) (Blk.new w _ _) rfl (by unfold maxLen; omega) (fun i x hx => by simpa [ints] using hx) (Nat.le_refl _) (by unfold maxLen; omega)
theorem bits_and_one (m : Nat) (h : m < 9223372036854775808) : bits .and .i64 (m : Int) 1 = ((m % 2 : Nat) : Int) := by
  show IntKind.i64.wrap ((BitVec.ofInt 64 (m : Int) &&& BitVec.ofInt 64 1).toNat : Int) = _
  have h1 : (BitVec.ofInt 64 (m : Int)).toNat = m := by rw [BitVec.ofInt_natCast, BitVec.toNat_ofNat]; exact Nat.mod_eq_of_lt (by omega)
  rw [BitVec.toNat_and, h1, show (BitVec.ofInt 64 1).toNat = 1 by rfl, Nat.and_one_is_mod, IntKind.wrap_i64]
  omega
theorem bit_test (n k : Nat) (h : n ≤ 9223372036854775807) : (bits .and .i64 ((n : Int) / 2 ^ k) 1 == 1) = decide (n / 2 ^ k % 2 = 1) := by
  have h1 : ((n : Int) / 2 ^ k) = ((n / 2 ^ k : Nat) : Int) := by rw [Int.natCast_ediv, Int.natCast_pow]; rfl
  have h2 : n / 2 ^ k ≤ n := Nat.div_le_self _ _
  rw [h1, bits_and_one _ (by omega), Bool.eq_iff_iff, beq_iff_eq, decide_eq_true_eq]
  omega
theorem half_pow (a n k : Nat) : a ^ (n / 2 ^ k) = a ^ (n / 2 ^ (k + 1)) * a ^ (n / 2 ^ (k + 1)) * (if n / 2 ^ k % 2 = 1 then a else 1) := by
  have h : n / 2 ^ (k + 1) = n / 2 ^ k / 2 := by rw [Nat.pow_succ, Nat.div_div_eq_div_mul]
  rw [h]
  generalize n / 2 ^ k = m
  have hm : m = m / 2 + m / 2 + m % 2 := by omega
  conv => lhs; rw [hm]
  rw [Nat.pow_add, Nat.pow_add]
  rcases (show m % 2 = 0 ∨ m % 2 = 1 by omega) with e | e
  · rw [e, if_neg (by omega), Nat.pow_zero]
  · rw [e, if_pos rfl, Nat.pow_one]
set_option maxHeartbeats 1000000 in
theorem r1_Power_zero (w : World) (v : Value) (a : Nat) (ha : IsN .i64 w v a) : Calls Tryz.prog 40 #[v, .int .i64 0] w fun e w' => RetPow (a ^ 0) e w' ∧ Below w.heap.size w w' := by
  have H1 := hid (isN_one w)
  go_enter Tryz.func40, Tryz.ntmps40
  go_wp2_with fail
  go_ret2
  exact ⟨.inl ⟨by rw [Nat.pow_zero, nDigits_one]; omega, _, rfl, by rw [Nat.pow_zero]; exact H1.out⟩, (Below.refl _ _).alloc (Nat.le_refl _) _⟩
set_option maxHeartbeats 1000000 in
theorem r1_Power_small (w : World) (v : Value) (a n : Nat) (ha : IsN .i64 w v a) (hs : a ≤ 1) (hn : 0 < n) (hn2 : n ≤ 9223372036854775807) : Calls Tryz.prog 40 #[v, .int .i64 n] w fun e w' => RetPow (a ^ n) e w' ∧ Below w.heap.size w w' := by
  have H1 := hid (isN_one w)
  have HA := hid ha
  have hord := hid (show ordN a 1 ≤ 0 from by unfold ordN; split; · omega
                                              · split <;> omega)
  have hpow := hid (show a ^ n = a ∧ nDigits a ≤ 4000 from by
    rcases (show a = 0 ∨ a = 1 by omega) with rfl | rfl
    · exact ⟨Nat.zero_pow hn, by rw [nDigits_zero]; omega⟩
    · exact ⟨Nat.one_pow n, by rw [nDigits_one]; omega⟩)
  obtain ⟨a1, c1, rfl, _⟩ := ha.openI
  have q0 : ((n : Int) == 0) = false := by simp; omega
  have hb0 : Below w.heap.size w (w.alloc (.cells #[.int .i64 1] 3)) := (Below.refl _ _).alloc (Nat.le_refl _) _
  have HB0 := hid hb0
  clear ha hs hb0
  go_enter Tryz.func40, Tryz.ntmps40
  go_wp2_with fail
  refine (r1_Order _ _ _ a 1 (HA.out.call HB0.out) H1.out).mono ?_; rintro e w1 ⟨rfl, hb1⟩
  have B1 := hid (bnext HB0.out hb1); clear hb1
  obtain ⟨t, ht⟩ : ∃ t, ordN a 1 = t := ⟨_, rfl⟩
  rw [ht] at hord ⊢
  have q1 : decide (t ≤ 0) = true := by have := hord.out; simp; omega
  clear ht
  go_wp2_with fail
  go_ret2
  exact ⟨.inl ⟨by rw [hpow.out.1]; exact hpow.out.2, _, rfl, by rw [hpow.out.1]; exact HA.out.call B1.out⟩, B1.out⟩
set_option maxHeartbeats 1000000 in
theorem r1_Power_big (w : World) (v : Value) (a n : Nat) (ha : IsN .i64 w v a) (hs : 1 < a) (hd : nDigits a ≤ 4000) (hn : 0 < n) (hn2 : n ≤ 9223372036854775807) : Calls Tryz.prog 40 #[v, .int .i64 n] w fun e w' => RetPow (a ^ n) e w' ∧ Below w.heap.size w w' := by
  have H1 := hid (isN_one w)
  have HA := hid ha
  have hord := hid (ordN_gt hs)
  obtain ⟨a1, c1, rfl, _⟩ := ha.openI
  have q0 : ((n : Int) == 0) = false := by simp; omega
  have hb0 : Below w.heap.size w (w.alloc (.cells #[.int .i64 1] 3)) := (Below.refl _ _).alloc (Nat.le_refl _) _
  have HB0 := hid hb0; have HS := hid hs; have HD := hid hd
  clear ha hs hb0 hd
  go_enter Tryz.func40, Tryz.ntmps40
  go_wp2_with fail
  refine (r1_Order _ _ _ a 1 (HA.out.call HB0.out) H1.out).mono ?_; rintro e w1 ⟨rfl, hb1⟩
  have B1 := hid (bnext HB0.out hb1); have O1 := hid (H1.out.call hb1); clear hb1
  rw [hord.out]
  go_wp2_with fail
  go_loopw [7, 8] (fun oo kk wr => ∃ (j : Nat) (t : Int), kk = .int .i64 t ∧ t = (j : Int) - 1 ∧ j ≤ 63 ∧ Hid (IsN .i64 wr oo (a ^ (n / 2 ^ j))) ∧ Hid (nDigits (a ^ (n / 2 ^ j)) ≤ 4000) ∧ Hid (Below w.heap.size w wr)) (fun _ kk _ => (intOf kk + 1).toNat)
  case atStart => exact ⟨63, _, rfl, by omega, by omega, by rw [Nat.div_eq_of_lt (by omega), Nat.pow_zero]; exact O1, by rw [Nat.div_eq_of_lt (by omega), Nat.pow_zero, nDigits_one, Hid]; omega, B1⟩
  case round =>
    obtain ⟨j, t, rfl, ht, hj, hO, hD, hB⟩ := hrel
    obtain ⟨a2, c2, rfl, _⟩ := hO.out.openI
    cases j with
    | zero =>
      obtain rfl : t = -1 := by omega
      clear ht
      go_wp2_with fail
      go_ret2
      have h2 := hD.out
      rw [Nat.pow_zero, Nat.div_one] at h2
      exact ⟨.inl ⟨h2, _, rfl, hO.out.cast (by rw [Nat.pow_zero, Nat.div_one])⟩, hB.out⟩
    | succ k =>
      obtain rfl : t = (k : Int) := by omega
      clear ht
      have hl := hid (limbs_of_digits hD.out)
      have hla := hid (limbs_of_digits HD.out)
      have hbt := bit_test n k hn2
      by_cases hbit : n / 2 ^ k % 2 = 1
      · rw [decide_eq_true hbit] at hbt
        have HM := hid (show a ^ (n / 2 ^ k) = a ^ (n / 2 ^ (k + 1)) * a ^ (n / 2 ^ (k + 1)) * a from by rw [half_pow, if_pos hbit])
        have HLM := hid (show (limbs (a ^ (n / 2 ^ (k + 1)) * a ^ (n / 2 ^ (k + 1)) * a)).length ≤ 1000000 from by have := limbs_mul (limbs_mul hl.out hl.out) hla.out; omega)
        clear hbit
        go_wp2_with fail
        refine (r1_Times _ _ _ _ _ hO.out hO.out (by have := hl.out; omega) (by have := hl.out; omega)).mono ?_
        rintro e w2 ⟨⟨v2, rfl, hv2⟩, hb2⟩
        have V2 := hid hv2; have B2 := hid (bnext hB.out hb2); clear hv2 hb2
        go_wp2_with fail
        refine (r1_Times _ v2 _ _ a V2.out (HA.out.call B2.out) (by have := limbs_mul hl.out hl.out; omega) (by have := hla.out; omega)).mono ?_
        rintro e w3 ⟨⟨v3, rfl, hv3⟩, hb3⟩
        have V3 := hid hv3; have B3 := hid (bnext B2.out hb3); clear hv3 hb3
        obtain ⟨Bs, hBs⟩ : ∃ Bs, numB (a ^ (n / 2 ^ (k + 1)) * a ^ (n / 2 ^ (k + 1)) * a) = Bs := ⟨_, rfl⟩
        have HBS := hid hBs
        have hBz := hid (show Bs.size = nDigits (a ^ (n / 2 ^ (k + 1)) * a ^ (n / 2 ^ (k + 1)) * a) from by rw [← hBs]; exact numB_size _)
        clear hBs
        by_cases hlong : 4000 < nDigits (a ^ (n / 2 ^ (k + 1)) * a ^ (n / 2 ^ (k + 1)) * a)
        · have q3 : decide ((4000 : Int) < (Bs.size : Int)) = true := by rw [hBz.out]; simp; omega
          have HLO := hid (show 4000 < nDigits (a ^ n) from Nat.lt_of_lt_of_le hlong (by rw [← HM.out]; exact nDigits_mono (Nat.pow_le_pow_right (by have := HS.out; omega) (Nat.div_le_self _ _))))
          clear hlong
          go_wp2_with fail
          refine (r1_Write _ v3 (a ^ (n / 2 ^ (k + 1)) * a ^ (n / 2 ^ (k + 1)) * a) V3.out HLM.out).mono ?_; rintro e w9 ⟨rfl, hb9⟩
          have B9 := hid (bnext B3.out hb9); clear hb9
          rw [numV_eq, HBS.out]
          go_wp2_with fail
          go_ret2
          exact ⟨.inr ⟨HLO.out, rfl⟩, B9.out⟩
        · have q3 : decide ((4000 : Int) < (Bs.size : Int)) = false := by rw [hBz.out]; simp; omega
          have HLO := hid (show nDigits (a ^ (n / 2 ^ k)) ≤ 4000 from by rw [HM.out]; omega)
          clear hlong
          go_wp2_with fail
          refine (r1_Write _ v3 (a ^ (n / 2 ^ (k + 1)) * a ^ (n / 2 ^ (k + 1)) * a) V3.out HLM.out).mono ?_; rintro e w9 ⟨rfl, hb9⟩
          have B9 := hid (bnext B3.out hb9); have V9 := hid (V3.out.call hb9); clear hb9
          rw [numV_eq, HBS.out]
          go_wp2_with fail
          go_roundw
          case rel => exact ⟨k, _, rfl, rfl, by omega, by rw [HM.out]; exact V9, HLO, B9⟩
          case measure => simp [intOf] <;> omega
      · rw [decide_eq_false hbit] at hbt
        have HM := hid (show a ^ (n / 2 ^ k) = a ^ (n / 2 ^ (k + 1)) * a ^ (n / 2 ^ (k + 1)) from by rw [half_pow, if_neg hbit, Nat.mul_one])
        have HLM := hid (show (limbs (a ^ (n / 2 ^ (k + 1)) * a ^ (n / 2 ^ (k + 1)))).length ≤ 1000000 from by have := limbs_mul hl.out hl.out; omega)
        clear hbit
        go_wp2_with fail
        refine (r1_Times _ _ _ _ _ hO.out hO.out (by have := hl.out; omega) (by have := hl.out; omega)).mono ?_
        rintro e w2 ⟨⟨v2, rfl, hv2⟩, hb2⟩
        have V2 := hid hv2; have B2 := hid (bnext hB.out hb2); clear hv2 hb2
        obtain ⟨Bs, hBs⟩ : ∃ Bs, numB (a ^ (n / 2 ^ (k + 1)) * a ^ (n / 2 ^ (k + 1))) = Bs := ⟨_, rfl⟩
        have HBS := hid hBs
        have hBz := hid (show Bs.size = nDigits (a ^ (n / 2 ^ (k + 1)) * a ^ (n / 2 ^ (k + 1))) from by rw [← hBs]; exact numB_size _)
        clear hBs
        by_cases hlong : 4000 < nDigits (a ^ (n / 2 ^ (k + 1)) * a ^ (n / 2 ^ (k + 1)))
        · have q3 : decide ((4000 : Int) < (Bs.size : Int)) = true := by rw [hBz.out]; simp; omega
          have HLO := hid (show 4000 < nDigits (a ^ n) from Nat.lt_of_lt_of_le hlong (by rw [← HM.out]; exact nDigits_mono (Nat.pow_le_pow_right (by have := HS.out; omega) (Nat.div_le_self _ _))))
          clear hlong
          go_wp2_with fail
          refine (r1_Write _ v2 (a ^ (n / 2 ^ (k + 1)) * a ^ (n / 2 ^ (k + 1))) V2.out HLM.out).mono ?_; rintro e w9 ⟨rfl, hb9⟩
          have B9 := hid (bnext B2.out hb9); clear hb9
          rw [numV_eq, HBS.out]
          go_wp2_with fail
          go_ret2
          exact ⟨.inr ⟨HLO.out, rfl⟩, B9.out⟩
        · have q3 : decide ((4000 : Int) < (Bs.size : Int)) = false := by rw [hBz.out]; simp; omega
          have HLO := hid (show nDigits (a ^ (n / 2 ^ k)) ≤ 4000 from by rw [HM.out]; omega)
          clear hlong
          go_wp2_with fail
          refine (r1_Write _ v2 (a ^ (n / 2 ^ (k + 1)) * a ^ (n / 2 ^ (k + 1))) V2.out HLM.out).mono ?_; rintro e w9 ⟨rfl, hb9⟩
          have B9 := hid (bnext B2.out hb9); have V9 := hid (V2.out.call hb9); clear hb9
          rw [numV_eq, HBS.out]
          go_wp2_with fail
          go_roundw
          case rel => exact ⟨k, _, rfl, rfl, by omega, by rw [HM.out]; exact V9, HLO, B9⟩
          case measure => simp [intOf] <;> omega
theorem r1_Power (w : World) (v : Value) (a n : Nat) (ha : IsN .i64 w v a) (hd : nDigits a ≤ 4000) (hn2 : n ≤ 9223372036854775807) : Calls Tryz.prog 40 #[v, .int .i64 n] w fun e w' => RetPow (a ^ n) e w' ∧ Below w.heap.size w w' := by
  rcases Nat.eq_zero_or_pos n with rfl | hn
  · exact r1_Power_zero w v a ha
  · by_cases hs : 1 < a
    · exact r1_Power_big w v a n ha hs hd hn hn2
    · exact r1_Power_small w v a n ha (by omega) hn hn2
end Go.Proofs.YtpehhgkghgbhiaaGreatDoor
namespace Go.Proofs.YtpehhgkghgbhiaaGreatDoor
open Go.RowKit
set_option linter.unusedVariables false
/-- A call gives back a slice that holds n, and the int m. -/
def Ret2N (k : IntKind) (n m : Nat) (e : Ending) (w' : World) : Prop := ∃ v, e = .returned (.tuple #[v, .int k (m : Int)]) ∧ IsN k w' v n
set_option maxRecDepth 100000 in
set_option maxHeartbeats 4000000 in
theorem r1_short (w : World) (v : Value) (a d : Nat) (ha : IsN .i64 w v a) (hd0 : 0 < d) (hd1 : d < 1000000000) (hla : (limbs a).length ≤ 1000000) :
    Calls Tryz.prog 132 #[v, .int .i64 d] w fun e w' => Ret2N .i64 (a / d) (a % d) e w' ∧ Below w.heap.size w w' := by
  obtain ⟨a1, c1, rfl, h1, h2, h3⟩ := ha.openI
  have H3 := hid h3; clear h3 ha
  obtain ⟨n, ea⟩ : ∃ n, (limbs a).length = n := ⟨_, rfl⟩
  rw [ea] at h1 hla ⊢
  have HA := hid ea
  clear ea
  have hmk := fun W => make_limbs n (by omega) W
  have hdz : ((d : Int) == 0) = false := by simp; omega
  go_enter Tryz.func132, Tryz.ntmps132
  go_wp2_with fail
  clear hmk
  go_loopw [7, 8, 9] (fun rr ii nn wr => ∃ (j r : Nat) (t : Int) (o : List Nat), rr = .int .i64 r ∧ ii = .int .i64 t ∧ t = (j : Int) - 1 ∧ j ≤ n ∧ Hid (SmallI a d j r o) ∧ Hid (Arr .i64 3 wr w.heap.size o) ∧ Hid (Below w.heap.size w wr)) (fun _ ii _ _ => (intOf ii + 1).toNat)
  case atStart => exact ⟨n, 0, _, _, rfl, rfl, rfl, Nat.le_refl _, by have := SmallI.start (a := a) hd0; rw [HA.out] at this; exact this, Arr.made w .i64 3 n, (Below.refl _ _).alloc (Nat.le_refl _) _⟩
  case round =>
    obtain ⟨j, r, t, o, rfl, rfl, ht, hj, hS, hO, hB⟩ := hrel
    have hsz : Hid (o.length = n) := by rw [Hid, hS.out.len, HA.out]
    cases j with
    | zero =>
      obtain rfl : t = -1 := by omega
      clear ht
      have hv := hid hS.out.done
      have hr := hid (show Row wr (.slice (some ⟨w.heap.size, 0, none⟩) n n) (ints .i64 o) from by
        have := hO.out.row (n := n) (c := n) (by rw [hsz.out]; exact Nat.le_refl _) (Nat.le_refl _) (by unfold maxLen; omega)
        rwa [List.take_of_length_le (by rw [hsz.out]; exact Nat.le_refl _)] at this)
      go_wp2_with (go_at_call 84; refine (r1_trim _ _ o hS.out.sm hr.out).mono ?_; rintro e w1 ⟨⟨v1, rfl, hv1⟩, rfl⟩)
      go_ret2
      exact ⟨⟨v1, ret_tup (by rw [hv.out.2]), by rw [← hv.out.1]; exact hv1⟩, hB.out⟩
    | succ j =>
      obtain rfl : t = (j : Int) := by omega
      clear ht
      obtain ⟨x, hx⟩ : ∃ x, (limbs a)[j]? = some x := ⟨_, List.getElem?_eq_getElem (by rw [HA.out]; omega)⟩
      obtain ⟨g, og, rfl, hg, hc⟩ := H3.out _ x hx
      have d1 := (hB.out.cell (p := ⟨g, og + j, none⟩) hg).trans hc
      obtain ⟨z, hz⟩ : ∃ z, o[j]? = some z := ⟨_, List.getElem?_eq_getElem (by rw [hsz.out]; omega)⟩
      have d3 := hO.out.cell hz
      have d4 := hO.out.free j
      have HN := hid (hS.out.next hx)
      have hxl := (sm_limbs a).get hx
      have hrl := hS.out.rd
      clear hx hc hz
      go_wp2_with fail
      go_roundw
      case rel =>
        have e1 : (((r : Int) * 1000000000 + x) / d) = (((r * 1000000000 + x) / d : Nat) : Int) := by rw [Int.natCast_ediv]; rfl
        have e2 : (((r : Int) * 1000000000 + x) % d) = (((r * 1000000000 + x) % d : Nat) : Int) := by rw [Int.natCast_emod]; rfl
        rw [e1]
        exact ⟨j, _, _, _, by rw [e2], rfl, by omega, by omega, HN, hO.out.set j _, below_set hB.out (Nat.le_refl _) _⟩
      case measure => simp [intOf] <;> omega
end Go.Proofs.YtpehhgkghgbhiaaGreatDoor
namespace Go.Proofs.YtpehhgkghgbhiaaGreatDoor
open Go.RowKit
set_option linter.unusedVariables false
/-- A call gives back a new array of one limb more, that holds n, and nothing else leads to it. -/
def RetArr (k : IntKind) (t : TypeId) (B n len : Nat) (e : Ending) (w' : World) : Prop := ∃ g o, e = .returned (.slice (some ⟨g, 0, none⟩) len len) ∧ B ≤ g ∧ Arr k t w' g o ∧ o.length = len ∧ Sm o ∧ val o = n
set_option maxRecDepth 100000 in
set_option maxHeartbeats 4000000 in
theorem r1_scaled (w : World) (v : Value) (a d : Nat) (ha : IsN .i64 w v a) (hd1 : d < 1000000000) (hla : (limbs a).length ≤ 1000000) :
    Calls Tryz.prog 133 #[v, .int .i64 d] w fun e w' => RetArr .i64 3 w.heap.size (a * d) ((limbs a).length + 1) e w' ∧ Below w.heap.size w w' := by
  obtain ⟨a1, c1, rfl, h1, h2, h3⟩ := ha.openI
  have H3 := hid h3; clear h3 ha
  obtain ⟨n, ea⟩ : ∃ n, (limbs a).length = n := ⟨_, rfl⟩
  rw [ea] at h1 hla ⊢
  have HA := hid ea
  clear ea
  have hmk : ∀ W : World, (Instr.makeSlice 64 (.int .i64 ((n : Int) + 1)) (.int .i64 ((n : Int) + 1))).run Tryz.prog W = .ok (.slice (some ⟨W.heap.size, 0, none⟩) (n + 1) (n + 1)) (W.alloc (.cells (madeCells #[.int .i64 0] (n + 1)) 3)) := fun W => by
    have := make_limbs (n + 1) (by omega) W
    rwa [Int.natCast_add] at this
  go_enter Tryz.func133, Tryz.ntmps133
  go_wp2_with fail
  clear hmk
  go_loopw [6, 7, 8] (fun cc ii nn wr => ∃ (i c : Nat) (o : List Nat), cc = .int .i64 c ∧ ii = .int .i64 i ∧ i ≤ n ∧ Hid (ScaleI a d i c o) ∧ Hid (Arr .i64 3 wr w.heap.size o) ∧ Hid (Below w.heap.size w wr)) (fun _ ii _ _ => n - (intOf ii).toNat)
  case atStart => exact ⟨0, 0, _, rfl, rfl, Nat.zero_le _, ScaleI.start a d, by rw [HA.out]; exact Arr.made w .i64 3 (n + 1), (Below.refl _ _).alloc (Nat.le_refl _) _⟩
  case round =>
    obtain ⟨i, c, o, rfl, rfl, hin, hS, hO, hB⟩ := hrel
    have hsz : Hid (o.length = n + 1) := by rw [Hid, hS.out.len, HA.out]
    by_cases hlt : i < n
    · obtain ⟨x, hx⟩ : ∃ x, (limbs a)[i]? = some x := ⟨_, List.getElem?_eq_getElem (by rw [HA.out]; exact hlt)⟩
      obtain ⟨g, og, rfl, hg, hc⟩ := H3.out _ x hx
      have d1 := (hB.out.cell (p := ⟨g, og + i, none⟩) hg).trans hc
      obtain ⟨z, hz⟩ : ∃ z, o[i]? = some z := ⟨_, List.getElem?_eq_getElem (by rw [hsz.out]; omega)⟩
      have d3 := hO.out.cell hz
      have d4 := hO.out.free i
      have HN := hid (hS.out.next hd1 hx)
      have hb1 := mul_bound (old := 0) (by omega) ((sm_limbs a).get hx) hd1 hS.out.c1
      have hcl := hS.out.c1
      clear hx hc hz
      have HP := hid (show ((x : Int) * (d : Int)) = ((x * d : Nat) : Int) from (Int.natCast_mul x d).symm)
      obtain ⟨p, hp⟩ : ∃ p, x * d = p := ⟨_, rfl⟩
      rw [hp] at hb1 HN HP
      have hp2 := hb1.2; clear hb1 hp
      have e5 : IntKind.i64.wrap ((x : Int) * (d : Int)) = (p : Int) := by rw [HP.out]; exact IntWalk.i64_in _ (by omega)
      have e5' : wrap64 ((x : Int) * (d : Int)) = (p : Int) := by rw [HP.out]; exact IntWalk.wrap64_in _ (by omega)
      go_wp2_with fail
      clear e5 e5'
      go_roundw
      case rel =>
        have hz : (((p : Int) + c) % 1000000000) = (((p + c) % 1000000000 : Nat) : Int) := by omega
        rw [hz]
        exact ⟨i + 1, (p + c) / 1000000000, _, by go_num, by go_num, by omega, HN, hO.out.set i _, below_set hB.out (Nat.le_refl _) _⟩
      case measure => simp [intOf] <;> omega
    · obtain rfl : i = n := by omega
      obtain ⟨z, hz⟩ : ∃ z, o[i]? = some z := ⟨_, List.getElem?_eq_getElem (by rw [hsz.out]; omega)⟩
      have d3 := hO.out.cell hz
      have d4 := hO.out.free i
      clear hz
      have hD := hid (show val (o.set i c) = a * d ∧ Sm (o.set i c) ∧ (o.set i c).length = i + 1 from by have := hS.out; rw [← HA.out] at this ⊢; exact this.done)
      go_wp2_with fail
      go_ret
      exact ⟨⟨w.heap.size, _, rfl, Nat.le_refl _, hO.out.set i c, hD.out.2.2, hD.out.2.1, hD.out.1⟩, below_set hB.out (Nat.le_refl _) _⟩
end Go.Proofs.YtpehhgkghgbhiaaGreatDoor
namespace Go.Proofs.YtpehhgkghgbhiaaGreatDoor
open Go.RowKit
set_option linter.unusedVariables false
/-- What a step leaves: the quotient of the window comes back, the window holds the remainder, nothing else has turned. -/
def StepOut (us vs : List Nat) (gu j n : Nat) (w : World) (e : Ending) (w' : World) : Prop :=
  e = .returned (.int .i64 ((val ((us.drop j).take (n + 1)) / val vs : Nat) : Int)) ∧ ∃ o, WinOut us j n (val ((us.drop j).take (n + 1)) % val vs) o ∧ Arr .i64 3 w' gu o ∧ w.grownBy w' (some gu)
set_option maxRecDepth 100000 in
set_option maxHeartbeats 8000000 in
theorem r1_step (w : World) (gu j cu : Nat) (us : List Nat) (gv ov cv : Nat) (vs : List Nat) (n : Nat) (hS : StepIn us vs j n) (hU : Arr .i64 3 w gu us) (hV : Row w (.slice (some ⟨gv, ov, none⟩) n cv) (ints .i64 vs)) (hne : gv ≠ gu) :
    Calls Tryz.prog 134 #[.slice (some ⟨gu, j, none⟩) (n + 1) cu, .slice (some ⟨gv, ov, none⟩) n cv] w fun e w' => StepOut us vs gu j n w e w' := by
  have n2 := hS.n2; have nm := hS.nm; have lu := hS.lu; have um := hS.um
  have cv' : ∀ i, i < n → w.cell? ⟨gv, ov + i, none⟩ = some (.int .i64 (vs.getD i 0 : Nat)) := fun i hi => by
    obtain ⟨g, o, e, hg, hc⟩ := hV.at (ints_get (getD_some (l := vs) (i := i) (by rw [hS.lv]; exact hi)))
    simp at e
    obtain ⟨rfl, rfl⟩ := e
    exact hc
  have cu' : ∀ i, i ≤ n → w.cell? ⟨gu, j + i, none⟩ = some (.int .i64 (us.getD (j + i) 0 : Nat)) := fun i hi => hU.cell (getD_some (by omega))
  have hE := hid hS.est
  have a0 := cu' n (Nat.le_refl _)
  have a1 := cu' (n - 1) (by omega)
  have a2 := cu' (n - 2) (by omega)
  have b1 := cv' (n - 1) (by omega)
  have b2 := cv' (n - 2) (by omega)
  have CV := hid cv'; have CU := hid cu'; have HS := hid hS; have HU := hid hU
  clear cv' cu' hS hU hV
  obtain ⟨u0, hu0⟩ : ∃ x, us.getD (j + n) 0 = x := ⟨_, rfl⟩
  obtain ⟨u1, hu1⟩ : ∃ x, us.getD (j + (n - 1)) 0 = x := ⟨_, rfl⟩
  obtain ⟨u2, hu2⟩ : ∃ x, us.getD (j + (n - 2)) 0 = x := ⟨_, rfl⟩
  obtain ⟨v1, hv1⟩ : ∃ x, vs.getD (n - 1) 0 = x := ⟨_, rfl⟩
  obtain ⟨v2, hv2⟩ : ∃ x, vs.getD (n - 2) 0 = x := ⟨_, rfl⟩
  rw [hu0, hu1, hu2, hv1, hv2] at hE
  rw [hu0] at a0; rw [hu1] at a1; rw [hu2] at a2; rw [hv1] at b1; rw [hv2] at b2
  have HU0 := hid hu0; clear hu0 hu1 hu2 hv1 hv2
  have l0 := hE.out.b0; have l1 := hE.out.b1; have l2 := hE.out.b2; have l3 := hE.out.c1; have l4 := hE.out.c2; have l5 := hE.out.v0
  have dz : ((v1 : Int) == 0) = false := by simp; omega
  have f1 : (0 : Int) ≤ (n : Int) - 1 := by omega
  have f2 : (n : Int) - 1 < (n : Int) + 1 := by omega
  have f3 : (n : Int) - 1 < (n : Int) := by omega
  have f4 : (0 : Int) ≤ (n : Int) - 2 := by omega
  have f5 : (n : Int) - 2 < (n : Int) + 1 := by omega
  have f6 : (n : Int) - 2 < (n : Int) := by omega
  have f7 : (0 : Int) ≤ (n : Int) := by omega
  have f8 : (n : Int) < (n : Int) + 1 := by omega
  have e1 : IntKind.i64.wrap ((n : Int) - 1) = (n : Int) - 1 := IntWalk.i64_in _ (by omega)
  have e2 : IntKind.i64.wrap ((n : Int) - 2) = (n : Int) - 2 := IntWalk.i64_in _ (by omega)
  have e3 : ((n : Int) - 1).toNat = n - 1 := by omega
  have e4 : ((n : Int) - 2).toNat = n - 2 := by omega
  have e5 : IntKind.i64.wrap ((u0 : Int) * 1000000000) = (u0 : Int) * 1000000000 := IntWalk.i64_in _ (by omega)
  have e6 : IntKind.i64.wrap ((u0 : Int) * 1000000000 + u1) = (u0 : Int) * 1000000000 + u1 := IntWalk.i64_in _ (by omega)
  go_enter Tryz.func134, Tryz.ntmps134
  go_wp2_with fail
  go_quiet (fail)
  clear e5 e6
  go_wp2_with fail
  go_quiet (fail)
  go_upto_block 0 with (fail)
  rename_i nq1 nq2
  obtain ⟨V, hV⟩ : ∃ V, val vs = V := ⟨_, rfl⟩
  obtain ⟨U, hU⟩ : ∃ U, val ((us.drop j).take (n + 1)) = U := ⟨_, rfl⟩
  rw [hU, hV] at hE
  have HVU := hid (And.intro hU hV); clear hU hV
  go_cut [7] (fun gg wx => ∃ (G q : Nat), gg = .int .i64 G ∧ wx = w.drewN q ∧ G < 1000000000 ∧ Hid (U / V ≤ G ∧ G * V < U + V))
  case first =>
    go_wp2_with fail
    go_loopw [7, 8] (fun gg rr wr => ∃ G R q : Nat, gg = .int .i64 G ∧ rr = .int .i64 R ∧ wr = w.drewN q ∧ Hid (EstI U V u0 u1 v1 G R)) (fun gg _ _ => (intOf gg).toNat)
    case atStart =>
      exact ⟨_, _, _, by rw [Int.natCast_ediv]; rfl, by rw [Int.natCast_emod]; rfl, by rw [World.drewN_drewN], EstI.start hE.out⟩
    case round =>
      obtain ⟨G, R, q, rfl, rfl, rfl, hI⟩ := hrel
      have g2 := hI.out.g2; have r2 := hI.out.r2
      by_cases hR : R < 1000000000
      · have q1 : decide ((R : Int) < 1000000000) = true := by simp; omega
        by_cases hG : 1000000000 ≤ G
        · have q2 : decide ((1000000000 : Int) ≤ (G : Int)) = true := by simp; omega
          have HN := hid (hI.out.big hE.out hR hG)
          go_wp2_with fail
          go_big_quiet (fail)
          clear q1 q2
          go_wp2_with fail
          go_quiet (fail)
          go_wp2_with fail
          go_roundw
          case rel => exact ⟨G - 1, R + v1, _, by go_num, by go_num, by rw [World.drewN_drewN, World.drewN_drewN], HN⟩
          case measure => simp [intOf] <;> omega
        · have q2 : decide ((1000000000 : Int) ≤ (G : Int)) = false := by simp; omega
          obtain ⟨p, hp⟩ : ∃ p, G * v2 = p := ⟨_, rfl⟩
          have hpb : p ≤ 999999999 * 999999999 := by rw [← hp]; exact Nat.mul_le_mul (by omega) (by omega)
          have HPI := hid (show ((G : Int) * (v2 : Int)) = (p : Int) from by rw [← Int.natCast_mul, hp])
          by_cases hT : R * 1000000000 + u2 < p
          · have q3 : decide ((R : Int) * 1000000000 + u2 < (p : Int)) = true := by simp; omega
            have HN := hid (hI.out.less hE.out hR (by rw [hp]; exact hT))
            have hg0 := HN.out.2
            clear hp hT
            obtain ⟨x5, x6, x7⟩ : IntKind.i64.wrap ((G : Int) * (v2 : Int)) = (p : Int) ∧ IntKind.i64.wrap ((R : Int) * 1000000000) = (R : Int) * 1000000000 ∧ IntKind.i64.wrap ((R : Int) * 1000000000 + u2) = (R : Int) * 1000000000 + u2 := by
              refine ⟨by rw [HPI.out]; exact IntWalk.i64_in _ (by omega), IntWalk.i64_in _ (by omega), IntWalk.i64_in _ (by omega)⟩
            go_wp2_with fail
            go_big_quiet (fail)
            clear q1 q2 q3 x5 x6 x7
            go_wp2_with fail
            go_quiet (fail)
            go_wp2_with fail
            go_roundw
            case rel => exact ⟨G - 1, R + v1, _, by go_num, by go_num, by rw [World.drewN_drewN, World.drewN_drewN], HN.out.1⟩
            case measure => simp [intOf] <;> omega
          · have q3 : decide ((R : Int) * 1000000000 + u2 < (p : Int)) = false := by simp; omega
            have HD := hid (hI.out.done hE.out (.inr ⟨by omega, by rw [hp]; omega⟩))
            have HQ := hid hI.out.q
            clear hp hT
            obtain ⟨x5, x6, x7⟩ : IntKind.i64.wrap ((G : Int) * (v2 : Int)) = (p : Int) ∧ IntKind.i64.wrap ((R : Int) * 1000000000) = (R : Int) * 1000000000 ∧ IntKind.i64.wrap ((R : Int) * 1000000000 + u2) = (R : Int) * 1000000000 + u2 := by
              refine ⟨by rw [HPI.out]; exact IntWalk.i64_in _ (by omega), IntWalk.i64_in _ (by omega), IntWalk.i64_in _ (by omega)⟩
            go_wp2_with fail
            go_big_quiet (fail)
            clear q1 q2 q3 x5 x6 x7
            go_wp2_with fail
            go_meet
            exact ⟨G, _, rfl, by rw [World.drewN_drewN], HD.out.1, HQ.out, HD.out.2⟩
      · have q1 : decide ((R : Int) < 1000000000) = false := by simp; omega
        have HD := hid (hI.out.done hE.out (.inl (by omega)))
        have HQ := hid hI.out.q
        go_wp2_with fail
        go_big_quiet (fail)
        clear q1
        go_wp2_with fail
        go_meet
        exact ⟨G, _, rfl, by rw [World.drewN_drewN], HD.out.1, HQ.out, HD.out.2⟩
  case rest =>
    obtain ⟨G, q, rfl, rfl, hG, hQ⟩ := hcut
    have hE1 := hE
    clear a0 a1 a2 b1 b2 dz f1 f2 f3 f4 f5 f6 f7 f8 e1 e2 e3 e4 hE l0 l1 l2 l3 l4 l5
    go_wp2_with fail
    go_loopw [9, 10, 11, 12] (fun bb ii tt xx wr => ∃ (i c : Nat) (o : List Nat), bb = .int .i64 c ∧ ii = .int .i64 i ∧ i ≤ n ∧ Hid (MsubI us vs j n G i c o) ∧ Hid (Arr .i64 3 wr gu o) ∧ Hid (w.grownBy wr (some gu))) (fun _ ii _ _ _ => n - (intOf ii).toNat)
    case atStart => exact ⟨0, 0, us, rfl, rfl, Nat.zero_le _, MsubI.start HS.out.su, HU.out.drewN q, gb_drewN (World.grownBy.refl w _) q⟩
    case round =>
      obtain ⟨i, c, o, rfl, rfl, hin, hM, hO, hB⟩ := hrel
      have hol := hid hM.out.len
      have hcG := hM.out.c1
      by_cases hlt : i < n
      · have d1 := hO.out.cell (getD_some (l := o) (i := j + i) (by rw [hol.out]; omega))
        have d4 := hO.out.free (j + i)
        have d2 := gb_cell hB.out (CV.out i hlt) hne
        have hvl := HS.out.sv.getD i
        have hul := HS.out.su.getD (j + i)
        rw [getD_drop_eq hM.out.hi] at d1
        obtain ⟨T, M, z, c', hT, hM1, hz, hc', z1, z2, z3, z4, z5, z6, z7, z8⟩ := ref_msub hul hcG hG hvl
        have HN := hid (hM.out.next (by omega) lu z1 z2 z3)
        obtain ⟨ui, hui⟩ : ∃ x, us.getD (j + i) 0 = x := ⟨_, rfl⟩
        obtain ⟨vi, hvi⟩ : ∃ x, vs.getD i 0 = x := ⟨_, rfl⟩
        rw [hui] at d1 hul hT; rw [hvi] at d2 hvl hT
        clear hui hvi z3
        obtain ⟨p, hp⟩ : ∃ p, G * vi = p := ⟨_, rfl⟩
        have hpb : p ≤ 999999999 * 999999999 := by rw [← hp]; exact Nat.mul_le_mul (by omega) (by omega)
        have HPI := hid (show ((G : Int) * (vi : Int)) = (p : Int) from by rw [← Int.natCast_mul, hp])
        rw [hp] at hT
        have HT := hid hT; have HM1 := hid hM1; have HZ := hid hz; have HC := hid hc'
        clear hp hT hM1 hz hc'
        have f1 : (0 : Int) ≤ (i : Int) := by omega
        have f2 : (i : Int) < (n : Int) := by omega
        have f3 : (i : Int) < (n : Int) + 1 := by omega
        obtain ⟨x5, x6, x7⟩ : IntKind.i64.wrap ((G : Int) * (vi : Int)) = (p : Int) ∧ IntKind.i64.wrap ((ui : Int) - c) = (ui : Int) - c ∧ IntKind.i64.wrap ((ui : Int) - c - p) = T := by
          refine ⟨by rw [HPI.out]; exact IntWalk.i64_in _ (by omega), IntWalk.i64_in _ (by omega), by rw [HT.out]; exact IntWalk.i64_in _ (by omega)⟩
        go_wp2_with fail
        go_quiet (fail)
        clear x5 x6 x7
        have y1 := HM1.out; have y2 := HZ.out; have y3 := HC.out
        go_wp2_with fail
        clear y1 y2 y3
        go_roundw
        case rel => exact ⟨i + 1, c', _, by rw [HC.out], by go_num, by omega, HN, (hO.out.drewN _).set (j + i) z, gb_set (gb_drewN hB.out _) _ _⟩
        case measure => simp [intOf] <;> omega
      · obtain rfl : i = n := by omega
        have hg0 := getD_drop_eq hM.out.hi
        have d1 := hO.out.cell (getD_some (l := o) (i := j + i) (by rw [hol.out]; omega))
        have d4 := hO.out.free (j + i)
        rw [hg0, HU0.out] at d1
        have hV0 := hE1.out.pos
        have l0 := hE1.out.b0
        clear hg0
        by_cases hc : c ≤ u0
        · obtain ⟨r1, r2, r3⟩ := hM.out.fits lu HS.out.lv HS.out.sv HVU.out.1 HVU.out.2 HU0.out hQ.out.1 hV0 hc
          have R1 := hid r1; have R3 := hid r3
          subst r2
          clear r1 r3 hc
          go_wp2_with fail
          refine wp_loop_rounds 1 ?_
          rw [rounds_succ]
          go_wp2_with fail
          go_ret
          refine ⟨ret_int (by rw [HVU.out.1, HVU.out.2, ← R1.out]), _, by rw [HVU.out.1, HVU.out.2]; exact R3.out, hO.out.set (j + i) 0, gb_set hB.out _ _⟩
        · obtain ⟨hc1, hadd⟩ := hM.out.lacks lu HS.out.lv HS.out.sv HVU.out.1 HVU.out.2 HU0.out hQ.out.1 hQ.out.2 hV0 (by omega)
          have HADD := hid hadd
          have hsub : ((u0 : Int) - (c : Int)) = -1 := by omega
          have hcb : (c : Int) ≤ 1000000000 := by omega
          have HN := hid (hO.out.setN (j + i) (-1))
          have HG := hid (gb_set hB.out (j + i) (.int .i64 (-1)))
          clear hadd hc hc1
          go_wp2_with fail
          refine wp_loop_rounds 2 ?_
          rw [rounds_succ]
          clear hsub
          obtain ⟨wx, hwx⟩ : ∃ wx, wr.setCell ⟨gu, j + i, none⟩ (.int .i64 (-1)) = wx := ⟨_, rfl⟩
          rw [hwx] at HN HG ⊢
          clear hwx d1 d4
          have k1 := HN.out.self (m := j + i) (by rw [hol.out]; omega)
          go_wp2_with fail
          go_loopw [13, 14, 15] (fun cc ii tt wq => ∃ (y k : Nat) (p : List Nat), cc = .int .i64 k ∧ ii = .int .i64 y ∧ y ≤ i ∧ Hid (AddI o vs j y k p) ∧ Hid (ArrN .i64 3 wq gu p (j + i) (-1)) ∧ Hid (w.grownBy wq (some gu))) (fun _ ii _ _ => i - (intOf ii).toNat)
          case atStart => exact ⟨0, 0, o, rfl, rfl, Nat.zero_le _, AddI.start hM.out.sm, HN, HG⟩
          case round =>
            obtain ⟨y, k, p, rfl, rfl, hyi, hA, hP, hB2⟩ := hrel
            have hpl := hid (show p.length = us.length from by rw [hA.out.len, hol.out])
            by_cases hlt2 : y < i
            · have d1 := hP.out.cell (i := j + y) (by omega) (getD_some (l := p) (i := j + y) (by rw [hpl.out]; omega))
              have d4 := hP.out.free (j + y)
              have d2 := gb_cell hB2.out (CV.out y hlt2) hne
              rw [getD_drop_eq hA.out.hi] at d1
              have HN2 := hid (hA.out.next hM.out.sm HS.out.sv (by rw [hol.out]; omega))
              have hvl := HS.out.sv.getD y
              have hul := hM.out.sm.getD (j + y)
              have hk1 := hA.out.k1
              obtain ⟨ui, hui⟩ : ∃ x, o.getD (j + y) 0 = x := ⟨_, rfl⟩
              obtain ⟨vi, hvi⟩ : ∃ x, vs.getD y 0 = x := ⟨_, rfl⟩
              rw [hui] at d1 hul; rw [hvi] at d2 hvl; rw [hui, hvi] at HN2
              clear hui hvi
              have f1 : (0 : Int) ≤ (y : Int) := by omega
              have f2 : (y : Int) < (i : Int) := by omega
              have f3 : (y : Int) < (i : Int) + 1 := by omega
              have hkI : (k : Int) ≤ 1 := by omega
              obtain ⟨x5, x6⟩ : IntKind.i64.wrap ((ui : Int) + vi) = (ui : Int) + vi ∧ IntKind.i64.wrap ((ui : Int) + vi + k) = (ui : Int) + vi + k := by
                refine ⟨IntWalk.i64_in _ (by omega), IntWalk.i64_in _ (by omega)⟩
              go_wp2_with fail
              go_quiet (fail)
              clear x5 x6
              go_wp2_with fail
              go_roundw
              case rel =>
                have hz : (((ui : Int) + vi + k) % 1000000000) = (((ui + vi + k) % 1000000000 : Nat) : Int) := by omega
                rw [hz]
                exact ⟨y + 1, _, _, by go_num, by go_num, by omega, HN2, (hP.out.drewN _).set (by omega) _, gb_set (gb_drewN hB2.out _) _ _⟩
              case measure => simp [intOf] <;> omega
            · obtain rfl : y = i := by omega
              obtain ⟨r0, r1, r2, r3⟩ := HADD.out k p hA.out
              subst r0
              have R1 := hid r1; have R3 := hid r3
              have k1 := hP.out.self (m := j + y) (by rw [hpl.out]; omega)
              have k2 := hP.out.free (j + y)
              clear r1 r3
              go_wp2_with fail
              rw [rounds_succ]
              go_wp2_with fail
              go_ret
              refine ⟨ret_int (by rw [HVU.out.1, HVU.out.2, R1.out]; omega), _, by rw [HVU.out.1, HVU.out.2]; exact R3.out, hP.out.back 0, gb_set hB2.out _ _⟩
end Go.Proofs.YtpehhgkghgbhiaaGreatDoor
namespace Go.Proofs.YtpehhgkghgbhiaaGreatDoor
open Go.RowKit
set_option linter.unusedVariables false
theorem divide_less (w : World) (v u : Value) (a b : Nat) (ha : IsN .i64 w v a) (hb : IsN .i64 w u b) (hlt : a < b) :
    Calls Tryz.prog 96 #[v, u] w fun e w' => RetNN .i64 (a / b) (a % b) e w' ∧ Below w.heap.size w w' := by
  have HA := hid ha; have HB := hid hb; have HL := hid (ordN_lt hlt); have HQ := hid (Nat.div_eq_of_lt hlt); have HR := hid (Nat.mod_eq_of_lt hlt)
  obtain ⟨a1, c1, rfl, _⟩ := ha.openI
  obtain ⟨a2, c2, rfl, _⟩ := hb.openI
  clear ha hb hlt
  go_enter Tryz.func96, Tryz.ntmps96
  go_wp2_with fail
  refine (r1_Order _ _ _ a b HA.out HB.out).mono ?_; rintro e w1 ⟨rfl, hb1⟩
  have B1 := hid hb1; clear hb1
  rw [HL.out]
  go_wp2_with fail
  go_ret2
  exact ⟨⟨_, _, rfl, by rw [HQ.out]; exact IsN.zero _ _, by rw [HR.out]; exact HA.out.call B1.out⟩, B1.out⟩
set_option maxRecDepth 100000 in
set_option maxHeartbeats 2000000 in
theorem divide_one (w : World) (v u : Value) (a b : Nat) (ha : IsN .i64 w v a) (hb : IsN .i64 w u b) (hle : b ≤ a) (h0 : 0 < b) (h1 : b < 1000000000) (hla : (limbs a).length ≤ 1000000) :
    Calls Tryz.prog 96 #[v, u] w fun e w' => RetNN .i64 (a / b) (a % b) e w' ∧ Below w.heap.size w w' := by
  have HA := hid ha; have HB := hid hb
  have hord : ordN a b = 0 ∨ ordN a b = 1 := by
    unfold ordN; split
    · omega
    · split <;> simp
  obtain ⟨a1, c1, rfl, h1', _⟩ := ha.openI
  obtain ⟨a2, c2, rfl, h2', h3', h4'⟩ := hb.openI
  have hl1 : limbs b = [b] := limbs_small h0 h1
  obtain ⟨g, o, rfl, hg, hc⟩ := h4' 0 b (by rw [hl1]; rfl)
  rw [Nat.add_zero] at hc
  have HC := hid hc
  have hlen : (limbs b).length = 1 := by rw [hl1]; rfl
  rw [hlen] at HB h2' ⊢
  clear ha hb hc h4' hl1 hlen
  go_enter Tryz.func96, Tryz.ntmps96
  go_wp2_with fail
  refine (r1_Order _ _ _ a b HA.out HB.out).mono ?_; rintro e w1 ⟨rfl, hb1⟩
  have d1 := (hb1.cell (p := ⟨g, o, none⟩) hg).trans HC.out
  have B1 := hid hb1; clear hb1
  obtain ⟨t, ht⟩ : ∃ t, ordN a b = t := ⟨_, rfl⟩
  rw [ht] at hord ⊢
  have q0 : decide (t < 0) = false := by simp; omega
  clear ht hord
  go_wp2_with fail
  refine (r1_short _ _ a b (HA.out.call B1.out) h0 h1 hla).mono ?_; rintro e w2 ⟨⟨v2, rfl, hv2⟩, hb2⟩
  have B2 := hid hb2; have V2 := hid hv2; clear hb2 hv2
  have hrb : a % b < 1000000000 := Nat.lt_trans (Nat.mod_lt a h0) h1
  go_wp2_with fail
  refine (r1_trim _ _ [a % b] (Sm.cons hrb Sm.nil) ?_).mono ?_
  · exact Row.of_blk (b := w2.heap.size) (n := 1) (c := 1) (cs := #[.int .i64 ((a % b : Nat) : Int)]) (Blk.new w2 _ _) rfl (by unfold maxLen; omega) (fun i x hx => by simpa [ints] using hx) (Nat.le_refl _) (by unfold maxLen; omega)
  · rintro e w3 ⟨⟨v3, rfl, hv3⟩, rfl⟩
    have V3 := hid hv3; clear hv3
    go_wp2_with fail
    go_ret2
    have hb3 : Below w2.heap.size w2 (w2.alloc (.cells #[.int .i64 ((a % b : Nat) : Int)] 3)) := (Below.refl _ _).alloc (Nat.le_refl _) _
    refine ⟨⟨_, _, rfl, V2.out.call hb3, ?_⟩, bnext (bnext B1.out B2.out) hb3⟩
    have := V3.out
    rwa [show val [a % b] = a % b by simp [val_cons]] at this
set_option maxRecDepth 100000 in
set_option maxHeartbeats 4000000 in
theorem divide_many (w : World) (v u : Value) (a b m : Nat) (ha : IsN .i64 w v a) (hb : IsN .i64 w u b) (hle : b ≤ a) (hn : (limbs b).length = m) (hm2 : 2 ≤ m) (hla : (limbs a).length ≤ 1000000) :
    Calls Tryz.prog 96 #[v, u] w fun e w' => RetNN .i64 (a / b) (a % b) e w' ∧ Below w.heap.size w w' := by
  have HA := hid ha; have HB := hid hb
  have hord : ordN a b = 0 ∨ ordN a b = 1 := by
    unfold ordN; split
    · omega
    · split <;> simp
  have hmn := limbs_length_mono hle
  obtain ⟨a1, c1, rfl, h1', _⟩ := ha.openI
  obtain ⟨a2, c2, rfl, h2', h3', h4'⟩ := hb.openI
  obtain ⟨x, hx⟩ : ∃ x, (limbs b)[m - 1]? = some x := ⟨_, List.getElem?_eq_getElem (by omega)⟩
  obtain ⟨g, o, rfl, hg, hc⟩ := h4' (m - 1) x hx
  have HC := hid hc
  have hn1 : (limbs b).length = (m - 1) + 1 := by omega
  obtain ⟨s1, s2, s3⟩ := scale_len hn1 hx
  obtain ⟨t1, t2, _⟩ := top_limb hn1 hx
  obtain ⟨d, hd⟩ : ∃ d, 1000000000 / (x + 1) = d := ⟨_, rfl⟩
  rw [hd] at s1 s2 s3
  have HS := hid (show (limbs (b * d)).length = m by omega)
  have hdI := hid (show ((1000000000 : Int) / ((x : Int) + 1)) = (d : Int) from by rw [← hd]; rfl)
  rw [hn] at h2' hmn ⊢
  obtain ⟨L, hL⟩ : ∃ L, (limbs a).length = L := ⟨_, rfl⟩
  rw [hL] at hmn h1' ⊢
  have hla' : L ≤ 1000000 := by omega
  have HL := hid hL; have HN := hid hn; have HLA := hid hla; have HLE := hid hle
  rw [hL] at HA; rw [hn] at HB
  obtain ⟨K, hK⟩ : ∃ K, K = L + 1 - m := ⟨_, rfl⟩
  have hKI := hid (show ((L : Int) + 1 - (m : Int)) = (K : Int) by omega)
  have hKL : K + m = L + 1 := by omega
  have hmk := hid (fun W => make_limbs K (by omega) W)
  clear ha hb hc h4' hx hd s1 hL hn hla hle hn1 hK
  go_enter Tryz.func96, Tryz.ntmps96
  go_wp2_with fail
  refine (r1_Order _ _ _ a b HA.out HB.out).mono ?_; rintro e w1 ⟨rfl, hb1⟩
  have d1 := (hb1.cell (p := ⟨g, o + (m - 1), none⟩) hg).trans HC.out
  have B1 := hid hb1; clear hb1
  obtain ⟨t, ht⟩ : ∃ t, ordN a b = t := ⟨_, rfl⟩
  rw [ht] at hord ⊢
  have q0 : decide (t < 0) = false := by simp; omega
  clear ht hord
  go_wp2_with fail
  rw [hdI.out]
  refine (r1_scaled _ _ a d (HA.out.call B1.out) s3 HLA.out).mono ?_; rintro e w2 ⟨⟨gu, ou, rfl, hgu, hAu, lu, su, vu⟩, hb2⟩
  have B2 := hid (bnext B1.out hb2); have AU := hid hAu; have LU := hid lu; have SU := hid su; have VU := hid vu
  have hul := hAu.lt
  rw [HL.out] at LU ⊢
  clear hAu lu su vu d1
  go_wp2_with fail
  refine (r1_scaled _ _ b d (HB.out.call B2.out) s3 (by rw [HN.out]; omega)).mono ?_; rintro e w3 ⟨⟨gv, ov, rfl, hgv, hAv, lv, sv, vv⟩, hb3⟩
  have B3 := hid (bnext B2.out hb3); have AU3 := hid (AU.out.call hb3)
  have hne : gv ≠ gu := by omega
  have LV := hid lv; have VV := hid vv; have SV := hid sv
  clear lv vv sv
  go_wp2_with fail
  rw [← LV.out]
  refine (r1_trim_at _ _ _ ov SV.out (by have := hAv.row (n := ov.length) (c := ov.length) (Nat.le_refl _) (Nat.le_refl _) (by rw [LV.out, HN.out]; unfold maxLen; omega); rwa [List.take_of_length_le (Nat.le_refl _)] at this)).mono ?_
  rintro e w4 ⟨⟨m', rfl, hm'⟩, rfl⟩
  rw [VV.out] at hm'
  have hmm : m' = m := by have := hm'.len.1; rw [ints_length, HS.out] at this; exact this
  subst hmm
  have RV := hid hm'
  have hvl := hAv.lt
  clear hAv hm' AU
  have y1 := hKI.out; have y2 := hmk.out
  go_wp2_with fail
  clear y1 y2
  have hV := hid (val_limbs (b * d))
  have D0 := hid (show DivI (a * d) (b * d) m' (L + 1) K ou (List.replicate K 0) from by
    have h1 : 1000000000 ^ (m' - 1) ≤ b := limbs_lt_length.1 (by rw [HN.out]; omega)
    have h2 : b * d ≤ 1000000000 ^ m' := Nat.le_of_lt (limbs_length_le.1 (by rw [HS.out]; exact Nat.le_refl _))
    have h3 : a < 1000000000 ^ L := limbs_length_le.1 (by rw [HL.out]; exact Nat.le_refl _)
    have := DivI.start (U := a * d) (V := b * d) (n := m') h2 SU.out LU.out (by omega) VU.out (scaled_top LU.out VU.out h3 (by omega) (by omega) h1 s2)
    rwa [show L + 1 - m' = K by omega] at this)
  go_loopw [13] (fun jj wr => ∃ (k : Nat) (t : Int) (o Q : List Nat), jj = .int .i64 t ∧ t = (k : Int) - 1 ∧ k ≤ K ∧ Hid (DivI (a * d) (b * d) m' (L + 1) k o Q) ∧ Hid (Arr .i64 3 wr gu o) ∧ Hid (Arr .i64 3 wr w3.heap.size Q) ∧ Hid (Row wr (.slice (some ⟨gv, 0, none⟩) m' ov.length) (ints .i64 (limbs (b * d)))) ∧ Hid (Below w.heap.size w wr)) (fun jj _ => (intOf jj + 1).toNat)
  case atStart =>
    have ha : Below w3.heap.size w3 (w3.alloc (.cells (madeCells #[.int .i64 0] K) 3)) := (Below.refl _ _).alloc (Nat.le_refl _) _
    exact ⟨K, _, ou, _, rfl, rfl, Nat.le_refl _, D0, AU3.out.call ha, Arr.made w3 .i64 3 K, RV.out.call ha, bnext B3.out ha⟩
  case round =>
    obtain ⟨k, t, o2, Q, rfl, ht, hk, hD, hU, hQ, hR, hB⟩ := hrel
    have hol := hid hD.out.lo
    have hql := hid (show Q.length = K from by rw [hD.out.lq]; omega)
    cases k with
    | zero =>
      obtain rfl : t = -1 := by omega
      clear ht
      obtain ⟨r1, r2, r3⟩ := hD.out.done (by omega)
      have hfin := hid (div_end (a := a) (b := b) s2 r1 r2)
      have R3 := hid r3
      have hlen : (limbs (val (o2.take m'))).length ≤ 1000000 := by
        rw [r3]
        have := limbs_length_mono (Nat.le_of_lt r2)
        rw [HS.out] at this
        omega
      clear r1 r2 r3
      go_wp2_with fail
      refine (r1_trim _ _ (o2.take m') (hD.out.so.take _) (hU.out.row (by rw [hol.out]; omega) (by omega) (by unfold maxLen; omega))).mono ?_
      rintro e w5 ⟨⟨v5, rfl, hv5⟩, rfl⟩
      go_wp2_with fail
      refine (r1_short _ v5 _ d hv5 s2 s3 hlen).mono ?_
      rintro e w6 ⟨⟨v6, rfl, hv6⟩, hb6⟩
      have V6 := hid hv6; have B6 := hid hb6; have Q6 := hid (hQ.out.call hb6)
      clear hv5 hv6 hb6
      go_wp2_with fail
      refine (r1_trim _ _ Q hD.out.sq (by have := Q6.out.row (n := K) (c := K) (by rw [hql.out]; exact Nat.le_refl _) (Nat.le_refl _) (by unfold maxLen; omega); rwa [List.take_of_length_le (by rw [hql.out]; exact Nat.le_refl _)] at this)).mono ?_
      rintro e w7 ⟨⟨v7, rfl, hv7⟩, rfl⟩
      go_wp2_with fail
      go_ret2
      refine ⟨⟨v7, v6, rfl, by rw [← hfin.out.1]; exact hv7, ?_⟩, bnext hB.out B6.out⟩
      have := V6.out
      rwa [R3.out, hfin.out.2] at this
    | succ j =>
      obtain rfl : t = (j : Int) := by omega
      clear ht
      have hS := hid (show StepIn o2 (limbs (b * d)) j m' from ⟨hm2, by omega, HS.out, by rw [hol.out]; omega, by rw [hol.out]; omega, hD.out.so, sm_limbs _, limbs_top (n := m' - 1) (by rw [HS.out]; omega), by rw [hV.out]; exact hD.out.win (by omega)⟩)
      obtain ⟨z, hz⟩ : ∃ z, Q[j]? = some z := ⟨_, List.getElem?_eq_getElem (by rw [hql.out]; omega)⟩
      have hgq : w3.heap.size ≠ gu := by omega
      have hgw : w.heap.size ≤ gu := Nat.le_trans B1.out.size hgu
      have hqw : w.heap.size ≤ w3.heap.size := B3.out.size
      go_wp2_with fail
      rw [show j + m' + 1 - j = m' + 1 by omega]
      refine (r1_step _ gu j _ o2 gv 0 _ (limbs (b * d)) m' hS.out hU.out hR.out hne).mono ?_
      rintro e w5 ⟨he, o5, hw5, hA5, hg5⟩
      rw [hV.out] at he hw5
      have HN5 := hid (hD.out.next (by omega) hw5)
      obtain ⟨qv, hqv⟩ : ∃ q, val ((o2.drop j).take (m' + 1)) / (b * d) = q := ⟨_, rfl⟩
      rw [hqv] at he HN5
      subst he
      have Q5 := hid (hQ.out.gb hg5 hgq)
      have R5 := hid (hR.out.gb hg5 hne)
      have B5 := hid (below_gb hB.out hB.out.size hg5 hgw)
      have A5 := hid hA5
      have d3 := Q5.out.cell hz
      have d4 := Q5.out.free j
      clear hw5 hA5 hg5 hqv hz
      go_wp2_with fail
      go_roundw
      case rel =>
        have hs : Below w5.heap.size w5 w5 := Below.refl _ _
        have hset : w5.grownBy (w5.setCell ⟨w3.heap.size, j, none⟩ (.int .i64 (qv : Int))) (some w3.heap.size) := gb_set (World.grownBy.refl _ _) _ _
        exact ⟨j, _, o5, _, rfl, rfl, by omega, HN5, A5.out.gb hset (fun e => hgq e.symm), Q5.out.set j qv, R5.out.gb hset (by omega), below_set B5.out hqw _⟩
      case measure => simp [intOf] <;> omega
/-- THE LONG DIVISION, whole. -/
theorem r1_Divide (w : World) (v u : Value) (a b : Nat) (ha : IsN .i64 w v a) (hb : IsN .i64 w u b) (h0 : 0 < b) (hla : (limbs a).length ≤ 1000000) :
    Calls Tryz.prog 96 #[v, u] w fun e w' => RetNN .i64 (a / b) (a % b) e w' ∧ Below w.heap.size w w' := by
  by_cases hlt : a < b
  · exact divide_less w v u a b ha hb hlt
  · by_cases h1 : b < 1000000000
    · exact divide_one w v u a b ha hb (by omega) h0 h1 hla
    · refine divide_many w v u a b _ ha hb (by omega) rfl ?_ hla
      have : 1 < (limbs b).length := limbs_lt_length.2 (by omega)
      omega
end Go.Proofs.YtpehhgkghgbhiaaGreatDoor
namespace Go.Proofs.YtpehhgkghgbhiaaGreatDoor
open Go.RowKit
set_option linter.unusedVariables false
set_option maxHeartbeats 2000000 in
theorem r1_Common (w : World) (v u : Value) (a b : Nat) (ha : IsN .i64 w v a) (hb : IsN .i64 w u b) (hla : (limbs a).length ≤ 1000000) (hlb : (limbs b).length ≤ 1000000) :
    Calls Tryz.prog 83 #[v, u] w fun e w' => RetN .i64 (Nat.gcd a b) e w' ∧ Below w.heap.size w w' := by
  have HA := hid ha; have HB := hid hb; have LA := hid hla; have LB := hid hlb
  clear ha hb hla hlb
  go_enter Tryz.func83, Tryz.ntmps83
  go_wp2_with fail
  go_loopw [0, 1, 5, 6] (fun x y q r wr => ∃ m n : Nat, Hid (IsN .i64 wr x m) ∧ Hid (IsN .i64 wr y n) ∧ Hid ((limbs m).length ≤ 1000000) ∧ Hid ((limbs n).length ≤ 1000000) ∧ Hid (Nat.gcd m n = Nat.gcd a b) ∧ Hid (Below w.heap.size w wr))
    (fun x y q r wr => numOf .i64 wr y)
  case atStart => exact ⟨a, b, HA, HB, LA, LB, rfl, Below.refl _ _⟩
  case round =>
    obtain ⟨m, n, hx, hy, hm, hn, hg, hB⟩ := hrel
    have hnum := hid (numOf_eq hy.out)
    obtain ⟨a1, c1, rfl, h1, h1', h1''⟩ := hx.out.openI
    obtain ⟨a2, c2, rfl, h2, h2', h2''⟩ := hy.out.openI
    clear h1'' h2''
    by_cases h0 : n = 0
    · subst h0
      have hl : (limbs 0).length = 0 := by rw [limbs_zero]; rfl
      rw [hl] at *
      clear hl
      go_wp2_with fail
      go_ret
      exact ⟨⟨_, rfl, by rw [← hg.out, Nat.gcd_zero_right]; exact hx.out⟩, hB.out⟩
    · have hpos : 0 < (limbs n).length := List.length_pos_iff.2 (fun e => h0 (limbs_nil.1 e))
      have q0 : decide ((0 : Int) < ((limbs n).length : Int)) = true := by simp; omega
      go_wp2_with fail
      refine (r1_Divide _ _ _ m n hx.out hy.out (by omega) hm.out).mono ?_
      rintro e w1 ⟨⟨v1, v2, rfl, hv1, hv2⟩, hb1⟩
      have V2 := hid hv2; have B1 := hid (bnext hB.out hb1); have Y1 := hid (hy.out.call hb1)
      have hlt := hid (Nat.mod_lt m (y := n) (by omega))
      have hll := hid (show (limbs (m % n)).length ≤ 1000000 from Nat.le_trans (limbs_length_mono (Nat.le_of_lt hlt.out)) hn.out)
      have hgg := hid (show Nat.gcd n (m % n) = Nat.gcd a b from by rw [← hg.out, Nat.gcd_comm m n, Nat.gcd_rec n m, Nat.gcd_comm]) 
      clear hv1 hv2 hb1
      go_wp2_with fail
      go_roundw
      case rel => exact ⟨n, m % n, Y1, V2, hn, hll, hgg, B1⟩
      case measure => rw [numOf_eq V2.out, hnum.out]; exact hlt.out
end Go.Proofs.YtpehhgkghgbhiaaGreatDoor
namespace Go.Proofs.YtpehhgkghgbhiaaGreatDoor
open Go.RowKit
open Go.Lib (decDigits nDigits)
set_option linter.unusedVariables false
theorem r2_one (w : World) : Calls Tryz.prog 46 #[] w fun e w' => RetN .i64 1 e w' ∧ Below w.heap.size w w' := by
  have H1 := hid (isN_one w)
  go_enter Tryz.func46, Tryz.ntmps46
  go_wp2_with fail
  go_ret
  exact ⟨⟨_, rfl, H1.out⟩, (Below.refl _ _).alloc (Nat.le_refl _) _⟩
set_option maxHeartbeats 1000000 in
theorem r2_Reduce (w : World) (m : Bool) (v u : Value) (n d : Nat) (hn : IsN .i64 w v n) (hd : IsN .i64 w u d) (h0 : 0 < d) (hln : (limbs n).length ≤ 1000000) (hld : (limbs d).length ≤ 1000000) :
    Calls Tryz.prog 56 #[.bool m, v, u] w fun e w' => RetQ .i64 (qmk m n d) e w' ∧ Below w.heap.size w w' := by
  have HN := hid hn; have HD := hid hd
  obtain ⟨a1, c1, rfl, _⟩ := hn.openI
  obtain ⟨a2, c2, rfl, _⟩ := hd.openI
  clear hn hd
  rcases Nat.eq_zero_or_pos n with rfl | hp
  · have hl : (limbs 0).length = 0 := by rw [limbs_zero]; rfl
    rw [hl] at HN ⊢
    have hq := hid (qmk_zero m d)
    rw [hq.out]
    clear hl
    go_enter Tryz.func56, Tryz.ntmps56
    go_wp2_with fail
    refine (r2_one _).mono ?_; rintro e w1 ⟨⟨v1, rfl, hv1⟩, hb1⟩
    obtain ⟨a3, c3, rfl, _⟩ := hv1.openI
    have HV := hid hv1
    have HB := hid (show Blk w1 w.heap.size #[.bool false, .slice none 0 0, .slice none 0 0] 66 from (Blk.new w _ _).call hb1)
    have d0 := HB.out.cell 0
    have d1 := HB.out.cell 1
    have d2 := HB.out.cell 2
    have e0 := HB.out.free 0
    have e1 := HB.out.free 1
    have e2 := HB.out.free 2
    have HBB := hid hb1
    clear hb1 hv1
    simp at d0 d1 d2
    go_wp2_with fail
    obtain ⟨s1, s2⟩ := set3 HB.out false none a3 0 0 (limbs 1).length c3
    have f0 := s2.cell 0
    have f1 := s2.cell 1
    have f2 := s2.cell 2
    simp at f0 f1 f2
    refine bodyPost_ret (v := .agg #[.bool false, .slice none 0 0, .slice a3 (limbs 1).length c3]) (by simp [results, Tryz.results56, go_sem, f0, f1, f2]) rfl ⟨⟨_, rfl, IsQ.zero_ (s1 _ _ _ (IsN.zero _ _)) (s1 _ _ _ HV.out)⟩, ?_⟩
    exact (((((Below.refl _ _).alloc (Nat.le_refl _) _).trans (HBB.out.mono (by simp))).setCell (Nat.le_refl _) _).setCell (Nat.le_refl _) _).setCell (Nat.le_refl _) _
  · have hpos : 0 < (limbs n).length := List.length_pos_iff.2 (fun e => by have := limbs_nil.1 e; omega)
    have q0 : (((limbs n).length : Int) == 0) = false := beq_eq_false_iff_ne.2 (by omega)
    obtain ⟨g, hg⟩ : ∃ g, Nat.gcd n d = g := ⟨_, rfl⟩
    have hgp : 0 < g := hg ▸ Nat.gcd_pos_of_pos_left d hp
    have HG := hid hg; have HGP := hid hgp; have HP := hid hp; have H0 := hid h0; have HLN := hid hln; have HLD := hid hld
    clear hg hgp hp h0 hln hld hpos
    go_enter Tryz.func56, Tryz.ntmps56
    go_wp2_with fail
    refine (r1_Common _ _ _ n d (HN.out.call ((Below.refl _ _).alloc (Nat.le_refl _) _)) (HD.out.call ((Below.refl _ _).alloc (Nat.le_refl _) _)) HLN.out HLD.out).mono ?_
    rintro e w1 ⟨⟨v1, rfl, hv1⟩, hb1⟩
    rw [HG.out] at hv1
    have HB1 := hid (show Blk w1 w.heap.size #[.bool false, .slice none 0 0, .slice none 0 0] 66 from (Blk.new w _ _).call hb1)
    have B1 := hid (((Below.refl w.heap.size w).alloc (Nat.le_refl _) (.cells #[.bool false, .slice none 0 0, .slice none 0 0] 66)).trans (hb1.mono (by simp)))
    have N1 := hid (HN.out.call B1.out); have D1 := hid (HD.out.call B1.out); have G1 := hid hv1
    clear hb1 hv1
    go_wp2_with fail
    refine (r1_Divide _ _ _ n g N1.out G1.out HGP.out HLN.out).mono ?_
    rintro e w2 ⟨⟨v2, v3, rfl, hv2, -⟩, hb2⟩
    have HB2 := hid (HB1.out.call hb2); have B2 := hid (bnext B1.out hb2); have D2 := hid (D1.out.call hb2); have G2 := hid (G1.out.call hb2); have V2 := hid hv2
    clear hb2 hv2
    go_wp2_with fail
    refine (r1_Divide _ _ _ d g D2.out G2.out HGP.out HLD.out).mono ?_
    rintro e w3 ⟨⟨v4, v5, rfl, hv4, -⟩, hb3⟩
    have HB3 := hid (HB2.out.call hb3); have B3 := hid (bnext B2.out hb3); have W2 := hid (V2.out.call hb3); have W4 := hid hv4
    clear hb3 hv4
    obtain ⟨a3, c3, rfl, _⟩ := W2.out.openI
    obtain ⟨a4, c4, rfl, _⟩ := W4.out.openI
    have d0 := HB3.out.cell 0
    have d1 := HB3.out.cell 1
    have d2 := HB3.out.cell 2
    have e0 := HB3.out.free 0
    have e1 := HB3.out.free 1
    have e2 := HB3.out.free 2
    simp at d0 d1 d2
    go_wp2_with fail
    obtain ⟨s1, s2⟩ := set3 HB3.out m a3 a4 (limbs (n / g)).length c3 (limbs (d / g)).length c4
    have f0 := s2.cell 0
    have f1 := s2.cell 1
    have f2 := s2.cell 2
    simp at f0 f1 f2
    refine bodyPost_ret (v := .agg #[.bool m, .slice a3 (limbs (n / g)).length c3, .slice a4 (limbs (d / g)).length c4]) (by simp [results, Tryz.results56, go_sem, f0, f1, f2]) rfl ⟨⟨_, rfl, IsQ.mk' HP.out H0.out (HG.out ▸ s1 _ _ _ W2.out) (HG.out ▸ s1 _ _ _ W4.out)⟩, ?_⟩
    exact ((B3.out.setCell (Nat.le_refl _) _).setCell (Nat.le_refl _) _).setCell (Nat.le_refl _) _
end Go.Proofs.YtpehhgkghgbhiaaGreatDoor
namespace Go.Proofs.YtpehhgkghgbhiaaGreatDoor
open Go.RowKit
open Go.Lib (decDigits nDigits)
set_option linter.unusedVariables false
set_option linter.unusedSimpArgs false
/-- What slash, integer and digits give for a text, under names. -/
structure CutR (s W B D : ByteArray) (S M I fb : Bool) (k : Nat) : Prop where
  sl : ∀ w, Calls Tryz.prog 80 #[.string s] w fun e w' => e = .returned (.int .i64 k) ∧ w = w'
  kle : k ≤ s.size
  cutW : s.extract 0 k = W
  cutB : S = true → s.extract (k + 1) s.size = B
  has : S = decide (k < s.size)
  int : ∀ w, Calls Tryz.prog 54 #[.string W] w fun e w' => e = .returned (.tuple #[.bool M, .string D, .bool I]) ∧ w = w'
  form : ∀ w, Calls Tryz.prog 81 #[.string B] w fun e w' => e = .returned (.bool fb) ∧ w = w'
theorem cutR_of (s : ByteArray) (hs : s.size ≤ 1000000) : CutR s (cW s) (cB s) (iD (cW s)) (cS s) (iM (cW s)) (iB (cW s)) (fB (cB s)) (cW s).size := by
  have key : ∀ k, isSlash s.data.toList k → k = (cW s).size := by
    intro k hk
    obtain ⟨h1, h2, -⟩ := slash_cut hk
    rw [h2]
    simp
    omega
  have ex : ∃ k, isSlash s.data.toList k := by
    rcases sl_cases s.data.toList with hn | ⟨A, B, hA, e⟩
    · exact ⟨s.data.toList.length, Nat.le_refl _, fun j b _ hb => hn b (List.mem_of_getElem? hb), fun h => absurd h (Nat.lt_irrefl _)⟩
    · refine ⟨A.length, by rw [e]; simp, fun j b hj hb => ?_, fun _ => by rw [e]; simp⟩
      rw [e, List.getElem?_append_left hj] at hb
      exact hA b (List.mem_of_getElem? hb)
  obtain ⟨k, hk⟩ := ex
  obtain ⟨h1, h2, h3, h4⟩ := slash_cut hk
  have hk' := key k hk
  subst hk'
  exact {
    sl := fun w => (r2_slash w s (by omega)).mono (by
      rintro e w' ⟨⟨j, rfl, hj⟩, rfl⟩
      rw [key j hj]
      exact ⟨rfl, rfl⟩)
    kle := h1
    cutW := h2.symm
    cutB := fun h => (h4 (by rw [h3] at h; simpa using h)).symm
    has := h3
    int := fun w => r2_integer w (cW s) (by have := cW_size s; omega)
    form := fun w => r2_digits w (cB s) (by have := cB_size s; omega) }
/-- What reading a text gives back. -/
def RetR (x : Int) (m : Bool) (n d : Nat) (e : Ending) (w' : World) : Prop := ∃ v, e = .returned (.tuple #[v, .int .i64 x]) ∧ (x = 0 → ∃ N D, v = .agg #[.bool m, N, D] ∧ IsN .i64 w' N n ∧ IsN .i64 w' D d) ∧ (x ≠ 0 → v = .agg #[.bool false, .slice none 0 0, .slice none 0 0])
theorem RetR.err {x : Int} {m : Bool} {n d : Nat} {w' : World} (h : x ≠ 0) : RetR x m n d (.returned (.tuple #[.agg #[.bool false, .slice none 0 0, .slice none 0 0], .int .i64 x])) w' := ⟨_, rfl, fun e => absurd e h, fun _ => rfl⟩
set_option maxRecDepth 100000 in
set_option maxHeartbeats 1000000 in
theorem rd_bad (w : World) (s W B D : ByteArray) (S M I fb : Bool) (k : Nat) (hs : s.size ≤ 1000000) (HC : CutR s W B D S M I fb k)
    (h : (I && (!S || (decide (D ≠ ⟨#[48]⟩) && fb && decide (B ≠ ⟨#[48]⟩) && decide (B ≠ ⟨#[49]⟩)))) = false) :
    Calls Tryz.prog 37 #[.string s] w fun e w' => e = .returned (.tuple #[.agg #[.bool false, .slice none 0 0, .slice none 0 0], .int .i64 3]) ∧ Below w.heap.size w w' := by
  have key : (I = false) ∨ (I = true ∧ S = true ∧ (D = ⟨#[48]⟩ ∨ (¬ D = ⟨#[48]⟩ ∧ (fb = false ∨ (fb = true ∧ (B = ⟨#[48]⟩ ∨ (¬ B = ⟨#[48]⟩ ∧ B = ⟨#[49]⟩))))))) := by
    by_cases h1 : D = ⟨#[48]⟩ <;> by_cases h2 : B = ⟨#[48]⟩ <;> by_cases h3 : B = ⟨#[49]⟩ <;> cases I <;> cases S <;> cases fb <;> simp [h1, h2, h3] at h ⊢
  have HK := hid HC
  have kle := HC.kle
  have hlt := HC.has
  have cw := hid HC.cutW
  have cb := hid HC.cutB
  clear HC h
  have t0 := hid (Blk.new w #[.bool false, .slice none 0 0, .slice none 0 0] 66)
  have t1 := hid ((Below.refl w.heap.size w).alloc (Nat.le_refl _) (.cells #[.bool false, .slice none 0 0, .slice none 0 0] 66))
  have d0 := t0.out.cell 0
  have d1 := t0.out.cell 1
  have d2 := t0.out.cell 2
  have e0 := t0.out.free 0
  have e1 := t0.out.free 1
  have e2 := t0.out.free 2
  simp at d0 d1 d2
  have ht : ∀ {b : Bool}, b = decide (k < s.size) → decide (k < s.size) = b := fun h => h.symm
  have wk : IntKind.i64.wrap ((k : Int) + 1) = (k : Int) + 1 := by rw [IntWalk.i64_in _ ⟨by omega, by omega⟩]
  have kle2 : S = true → k + 1 ≤ s.size := fun h => by rw [h] at hlt; have := of_decide_eq_true hlt.symm; omega
  rcases key with rfl | ⟨rfl, rfl, rfl | ⟨h1, rfl | ⟨rfl, rfl | ⟨h2, rfl⟩⟩⟩⟩
  · cases S
    · have q0 := ht hlt
      clear hlt ht kle2
      go_enter Tryz.func37, Tryz.ntmps37
      go_wp2_with (first
        | (go_at_call 80; refine (HK.out.sl _).mono ?_; rintro e w1 ⟨rfl, rfl⟩)
        | (go_at_call 54; rw [cw.out]; refine (HK.out.int _).mono ?_; rintro e w2 ⟨rfl, rfl⟩)
        | (go_at_call 81; (first | rw [cb.out trivial] | rw [cb.out rfl]); refine (HK.out.form _).mono ?_; rintro e w3 ⟨rfl, rfl⟩)
        | fail)
      obtain ⟨s1, s2⟩ := set3 t0.out false none none 0 0 0 0
      have f0 := s2.cell 0
      have f1 := s2.cell 1
      have f2 := s2.cell 2
      simp at f0 f1 f2
      refine bodyPost_ret (v := .tuple #[.agg #[.bool false, .slice none 0 0, .slice none 0 0], .int .i64 3]) (by simp [results, Tryz.results37, go_sem, f0, f1, f2]) rfl ⟨rfl, ?_⟩
      first | exact t1.out | exact ((t1.out.setCell (Nat.le_refl _) _).setCell (Nat.le_refl _) _).setCell (Nat.le_refl _) _
    · have q0 := ht hlt
      have kle3 := kle2 rfl
      clear hlt ht kle2
      go_enter Tryz.func37, Tryz.ntmps37
      go_wp2_with (first
        | (go_at_call 80; refine (HK.out.sl _).mono ?_; rintro e w1 ⟨rfl, rfl⟩)
        | (go_at_call 54; rw [cw.out]; refine (HK.out.int _).mono ?_; rintro e w2 ⟨rfl, rfl⟩)
        | (go_at_call 81; (first | rw [cb.out trivial] | rw [cb.out rfl]); refine (HK.out.form _).mono ?_; rintro e w3 ⟨rfl, rfl⟩)
        | fail)
      obtain ⟨s1, s2⟩ := set3 t0.out false none none 0 0 0 0
      have f0 := s2.cell 0
      have f1 := s2.cell 1
      have f2 := s2.cell 2
      simp at f0 f1 f2
      refine bodyPost_ret (v := .tuple #[.agg #[.bool false, .slice none 0 0, .slice none 0 0], .int .i64 3]) (by simp [results, Tryz.results37, go_sem, f0, f1, f2]) rfl ⟨rfl, ?_⟩
      first | exact t1.out | exact ((t1.out.setCell (Nat.le_refl _) _).setCell (Nat.le_refl _) _).setCell (Nat.le_refl _) _
  · have q0 := ht hlt
    have kle3 := kle2 rfl
    clear hlt ht kle2
    go_enter Tryz.func37, Tryz.ntmps37
    go_wp2_with (first
      | (go_at_call 80; refine (HK.out.sl _).mono ?_; rintro e w1 ⟨rfl, rfl⟩)
      | (go_at_call 54; rw [cw.out]; refine (HK.out.int _).mono ?_; rintro e w2 ⟨rfl, rfl⟩)
      | (go_at_call 81; (first | rw [cb.out trivial] | rw [cb.out rfl]); refine (HK.out.form _).mono ?_; rintro e w3 ⟨rfl, rfl⟩)
      | fail)
    obtain ⟨s1, s2⟩ := set3 t0.out false none none 0 0 0 0
    have f0 := s2.cell 0
    have f1 := s2.cell 1
    have f2 := s2.cell 2
    simp at f0 f1 f2
    refine bodyPost_ret (v := .tuple #[.agg #[.bool false, .slice none 0 0, .slice none 0 0], .int .i64 3]) (by simp [results, Tryz.results37, go_sem, f0, f1, f2]) rfl ⟨rfl, ?_⟩
    first | exact t1.out | exact ((t1.out.setCell (Nat.le_refl _) _).setCell (Nat.le_refl _) _).setCell (Nat.le_refl _) _
  · have q0 := ht hlt
    have kle3 := kle2 rfl
    have i1 := ne_lit (l := [48]) h1
    clear hlt ht kle2
    go_enter Tryz.func37, Tryz.ntmps37
    go_wp2_with (first
      | (go_at_call 80; refine (HK.out.sl _).mono ?_; rintro e w1 ⟨rfl, rfl⟩)
      | (go_at_call 54; rw [cw.out]; refine (HK.out.int _).mono ?_; rintro e w2 ⟨rfl, rfl⟩)
      | (go_at_call 81; (first | rw [cb.out trivial] | rw [cb.out rfl]); refine (HK.out.form _).mono ?_; rintro e w3 ⟨rfl, rfl⟩)
      | fail)
    obtain ⟨s1, s2⟩ := set3 t0.out false none none 0 0 0 0
    have f0 := s2.cell 0
    have f1 := s2.cell 1
    have f2 := s2.cell 2
    simp at f0 f1 f2
    refine bodyPost_ret (v := .tuple #[.agg #[.bool false, .slice none 0 0, .slice none 0 0], .int .i64 3]) (by simp [results, Tryz.results37, go_sem, f0, f1, f2]) rfl ⟨rfl, ?_⟩
    first | exact t1.out | exact ((t1.out.setCell (Nat.le_refl _) _).setCell (Nat.le_refl _) _).setCell (Nat.le_refl _) _
  · have q0 := ht hlt
    have kle3 := kle2 rfl
    have i1 := ne_lit (l := [48]) h1
    clear hlt ht kle2
    go_enter Tryz.func37, Tryz.ntmps37
    go_wp2_with (first
      | (go_at_call 80; refine (HK.out.sl _).mono ?_; rintro e w1 ⟨rfl, rfl⟩)
      | (go_at_call 54; rw [cw.out]; refine (HK.out.int _).mono ?_; rintro e w2 ⟨rfl, rfl⟩)
      | (go_at_call 81; (first | rw [cb.out trivial] | rw [cb.out rfl]); refine (HK.out.form _).mono ?_; rintro e w3 ⟨rfl, rfl⟩)
      | fail)
    obtain ⟨s1, s2⟩ := set3 t0.out false none none 0 0 0 0
    have f0 := s2.cell 0
    have f1 := s2.cell 1
    have f2 := s2.cell 2
    simp at f0 f1 f2
    refine bodyPost_ret (v := .tuple #[.agg #[.bool false, .slice none 0 0, .slice none 0 0], .int .i64 3]) (by simp [results, Tryz.results37, go_sem, f0, f1, f2]) rfl ⟨rfl, ?_⟩
    first | exact t1.out | exact ((t1.out.setCell (Nat.le_refl _) _).setCell (Nat.le_refl _) _).setCell (Nat.le_refl _) _
  · have q0 := ht hlt
    have kle3 := kle2 rfl
    have i1 := ne_lit (l := [48]) h1
    have i2 := ne_lit (l := [48]) h2
    clear hlt ht kle2
    go_enter Tryz.func37, Tryz.ntmps37
    go_wp2_with (first
      | (go_at_call 80; refine (HK.out.sl _).mono ?_; rintro e w1 ⟨rfl, rfl⟩)
      | (go_at_call 54; rw [cw.out]; refine (HK.out.int _).mono ?_; rintro e w2 ⟨rfl, rfl⟩)
      | (go_at_call 81; (first | rw [cb.out trivial] | rw [cb.out rfl]); refine (HK.out.form _).mono ?_; rintro e w3 ⟨rfl, rfl⟩)
      | fail)
    obtain ⟨s1, s2⟩ := set3 t0.out false none none 0 0 0 0
    have f0 := s2.cell 0
    have f1 := s2.cell 1
    have f2 := s2.cell 2
    simp at f0 f1 f2
    refine bodyPost_ret (v := .tuple #[.agg #[.bool false, .slice none 0 0, .slice none 0 0], .int .i64 3]) (by simp [results, Tryz.results37, go_sem, f0, f1, f2]) rfl ⟨rfl, ?_⟩
    first | exact t1.out | exact ((t1.out.setCell (Nat.le_refl _) _).setCell (Nat.le_refl _) _).setCell (Nat.le_refl _) _
set_option maxRecDepth 100000 in
set_option maxHeartbeats 1000000 in
theorem rd_long (w : World) (s W B D : ByteArray) (S M fb : Bool) (k : Nat) (hs : s.size ≤ 1000000) (HC : CutR s W B D S M true fb k)
    (h : S = false ∨ (S = true ∧ ¬ D = ⟨#[48]⟩ ∧ ¬ B = ⟨#[48]⟩ ∧ ¬ B = ⟨#[49]⟩ ∧ fb = true)) (hl : 4000 < D.size ∨ (¬ 4000 < D.size ∧ S = true ∧ 4000 < B.size)) :
    Calls Tryz.prog 37 #[.string s] w fun e w' => e = .returned (.tuple #[.agg #[.bool false, .slice none 0 0, .slice none 0 0], .int .i64 5]) ∧ Below w.heap.size w w' := by
  have HK := hid HC
  have kle := HC.kle
  have hlt := HC.has
  have cw := hid HC.cutW
  have cb := hid HC.cutB
  clear HC
  have t0 := hid (Blk.new w #[.bool false, .slice none 0 0, .slice none 0 0] 66)
  have t1 := hid ((Below.refl w.heap.size w).alloc (Nat.le_refl _) (.cells #[.bool false, .slice none 0 0, .slice none 0 0] 66))
  have wk : IntKind.i64.wrap ((k : Int) + 1) = (k : Int) + 1 := by rw [IntWalk.i64_in _ ⟨by omega, by omega⟩]
  have d0 := t0.out.cell 0
  have d1 := t0.out.cell 1
  have d2 := t0.out.cell 2
  have e0 := t0.out.free 0
  have e1 := t0.out.free 1
  have e2 := t0.out.free 2
  simp at d0 d1 d2
  have kle2 : S = true → k + 1 ≤ s.size := fun h => by rw [h] at hlt; have := of_decide_eq_true hlt.symm; omega
  have q0 := hlt.symm
  clear hlt
  rcases h with rfl | ⟨rfl, h1, h2, h3, rfl⟩
  · have q1 : decide ((4000 : Int) < (D.size : Int)) = true := by
      rcases hl with hl | ⟨_, hl, _⟩
      · simp; omega
      · cases hl
    clear hl kle2
    go_enter Tryz.func37, Tryz.ntmps37
    go_wp2_with (first
      | (go_at_call 80; refine (HK.out.sl _).mono ?_; rintro e w1 ⟨rfl, rfl⟩)
      | (go_at_call 54; rw [cw.out]; refine (HK.out.int _).mono ?_; rintro e w2 ⟨rfl, rfl⟩)
      | (go_at_call 81; (first | rw [cb.out trivial] | rw [cb.out rfl]); refine (HK.out.form _).mono ?_; rintro e w3 ⟨rfl, rfl⟩)
      | fail)
    obtain ⟨s1, s2⟩ := set3 t0.out false none none 0 0 0 0
    have f0 := s2.cell 0
    have f1 := s2.cell 1
    have f2 := s2.cell 2
    simp at f0 f1 f2
    refine bodyPost_ret (v := .tuple #[.agg #[.bool false, .slice none 0 0, .slice none 0 0], .int .i64 5]) (by simp [results, Tryz.results37, go_sem, f0, f1, f2]) rfl ⟨rfl, ?_⟩
    first | exact t1.out | exact ((t1.out.setCell (Nat.le_refl _) _).setCell (Nat.le_refl _) _).setCell (Nat.le_refl _) _
  · have kle3 := kle2 rfl
    have i1 := ne_lit (l := [48]) h1
    have i2 := ne_lit (l := [48]) h2
    have i3 := ne_lit (l := [49]) h3
    clear kle2
    rcases hl with hl | ⟨hl, -, hl2⟩
    · have q1 : decide ((4000 : Int) < (D.size : Int)) = true := by simp; omega
      clear hl
      go_enter Tryz.func37, Tryz.ntmps37
      go_wp2_with (first
        | (go_at_call 80; refine (HK.out.sl _).mono ?_; rintro e w1 ⟨rfl, rfl⟩)
        | (go_at_call 54; rw [cw.out]; refine (HK.out.int _).mono ?_; rintro e w2 ⟨rfl, rfl⟩)
        | (go_at_call 81; (first | rw [cb.out trivial] | rw [cb.out rfl]); refine (HK.out.form _).mono ?_; rintro e w3 ⟨rfl, rfl⟩)
        | fail)
      obtain ⟨s1, s2⟩ := set3 t0.out false none none 0 0 0 0
      have f0 := s2.cell 0
      have f1 := s2.cell 1
      have f2 := s2.cell 2
      simp at f0 f1 f2
      refine bodyPost_ret (v := .tuple #[.agg #[.bool false, .slice none 0 0, .slice none 0 0], .int .i64 5]) (by simp [results, Tryz.results37, go_sem, f0, f1, f2]) rfl ⟨rfl, ?_⟩
      first | exact t1.out | exact ((t1.out.setCell (Nat.le_refl _) _).setCell (Nat.le_refl _) _).setCell (Nat.le_refl _) _
    · have q1 : decide ((4000 : Int) < (D.size : Int)) = false := by simp; omega
      have q2 : decide ((4000 : Int) < (B.size : Int)) = true := by simp; omega
      clear hl hl2
      go_enter Tryz.func37, Tryz.ntmps37
      go_wp2_with (first
        | (go_at_call 80; refine (HK.out.sl _).mono ?_; rintro e w1 ⟨rfl, rfl⟩)
        | (go_at_call 54; rw [cw.out]; refine (HK.out.int _).mono ?_; rintro e w2 ⟨rfl, rfl⟩)
        | (go_at_call 81; (first | rw [cb.out trivial] | rw [cb.out rfl]); refine (HK.out.form _).mono ?_; rintro e w3 ⟨rfl, rfl⟩)
        | fail)
      obtain ⟨s1, s2⟩ := set3 t0.out false none none 0 0 0 0
      have f0 := s2.cell 0
      have f1 := s2.cell 1
      have f2 := s2.cell 2
      simp at f0 f1 f2
      refine bodyPost_ret (v := .tuple #[.agg #[.bool false, .slice none 0 0, .slice none 0 0], .int .i64 5]) (by simp [results, Tryz.results37, go_sem, f0, f1, f2]) rfl ⟨rfl, ?_⟩
      first | exact t1.out | exact ((t1.out.setCell (Nat.le_refl _) _).setCell (Nat.le_refl _) _).setCell (Nat.le_refl _) _
set_option maxRecDepth 100000 in
set_option maxHeartbeats 1000000 in
theorem rd_frac (w : World) (s W B D : ByteArray) (M : Bool) (k : Nat) (hs : s.size ≤ 1000000) (HC : CutR s W B D true M true true k)
    (h1 : ¬ D = ⟨#[48]⟩) (h2 : ¬ B = ⟨#[48]⟩) (h3 : ¬ B = ⟨#[49]⟩) (hl1 : ¬ 4000 < D.size) (hl2 : ¬ 4000 < B.size) (hd1 : allDig D.data.toList) (hd2 : allDig B.data.toList) :
    Calls Tryz.prog 37 #[.string s] w fun e w' => RetR (if Nat.gcd (bN D) (bN B) = 1 then 0 else 3) M (bN D) (bN B) e w' ∧ Below w.heap.size w w' := by
  obtain ⟨xc, hxc⟩ : ∃ x : Int, (if Nat.gcd (bN D) (bN B) = 1 then 0 else 3) = x := ⟨_, rfl⟩
  rw [hxc]
  have HXC := hid hxc
  clear hxc
  have HK := hid HC
  have kle := HC.kle
  have hlt := HC.has
  have cw := hid HC.cutW
  have cb := hid HC.cutB
  clear HC
  have t0 := hid (Blk.new w #[.bool false, .slice none 0 0, .slice none 0 0] 66)
  have t1 := hid ((Below.refl w.heap.size w).alloc (Nat.le_refl _) (.cells #[.bool false, .slice none 0 0, .slice none 0 0] 66))
  have wk : IntKind.i64.wrap ((k : Int) + 1) = (k : Int) + 1 := by rw [IntWalk.i64_in _ ⟨by omega, by omega⟩]
  have kle3 : k + 1 ≤ s.size := by have := of_decide_eq_true hlt.symm; omega
  have q0 := hlt.symm
  clear hlt
  have i1 := ne_lit (l := [48]) h1
  have i2 := ne_lit (l := [48]) h2
  have i3 := ne_lit (l := [49]) h3
  have q1 : decide ((4000 : Int) < (D.size : Int)) = false := by simp; omega
  have q2 : decide ((4000 : Int) < (B.size : Int)) = false := by simp; omega
  have L1 := hid (bN_limbs hd1 hl1)
  have L2 := hid (bN_limbs hd2 hl2)
  have P1 := fun W => hid (r1_Read W D hd1 (by omega))
  have P2 := fun W => hid (r1_Read W B hd2 (by omega))
  clear hd1 hd2 h1 h2 h3 hl1 hl2
  go_enter Tryz.func37, Tryz.ntmps37
  go_wp2_with (first
    | (go_at_call 80; refine (HK.out.sl _).mono ?_; rintro e w1 ⟨rfl, rfl⟩)
    | (go_at_call 54; rw [cw.out]; refine (HK.out.int _).mono ?_; rintro e w2 ⟨rfl, rfl⟩)
    | (go_at_call 81; (first | rw [cb.out trivial] | rw [cb.out rfl]); refine (HK.out.form _).mono ?_; rintro e w3 ⟨rfl, rfl⟩)
    | fail)
  refine (P1 _).out.mono ?_; rintro e w4 ⟨⟨v4, rfl, hv4⟩, hb4⟩
  have x4 := hid (t0.out.call hb4)
  have y4 := hid (bnext t1.out hb4)
  have N4 := hid hv4
  clear hb4 hv4
  obtain ⟨a4, c4, rfl, _⟩ := N4.out.openI
  obtain ⟨k1, hk1⟩ : ∃ k, (limbs (dv D.data.toList)).length = k := ⟨_, rfl⟩
  rw [hk1] at N4 ⊢
  clear P1
  go_wp2_with fail
  refine (P2 _).out.mono ?_; rintro e w5 ⟨⟨v5, rfl, hv5⟩, hb5⟩
  have x5 := hid (x4.out.call hb5)
  have y5 := hid (bnext y4.out hb5)
  have N5 := hid (N4.out.call hb5)
  have D5 := hid hv5
  clear hb5 hv5
  obtain ⟨a5, c5, rfl, _⟩ := D5.out.openI
  obtain ⟨k2, hk2⟩ : ∃ k, (limbs (dv B.data.toList)).length = k := ⟨_, rfl⟩
  rw [hk2] at D5 ⊢
  clear P2
  go_wp2_with fail
  have z5 := hid (Blk.new w5 #[.bool M, .slice a4 k1 c4, .slice a5 k2 c5] 66)
  have b5 := hid ((Below.refl w5.heap.size w5).alloc (Nat.le_refl _) (.cells #[.bool M, .slice a4 k1 c4, .slice a5 k2 c5] 66))
  have g0 := z5.out.cell 0
  have g1 := z5.out.cell 1
  have g2 := z5.out.cell 2
  simp at g0 g1 g2
  go_wp2_with fail
  refine (r1_Common _ _ _ _ _ (N5.out.call b5.out) (D5.out.call b5.out) L1.out L2.out).mono ?_
  rintro e w6 ⟨⟨v6, rfl, hv6⟩, hb6⟩
  have z6 := hid (z5.out.call hb6)
  have x6 := hid ((x5.out.call b5.out).call hb6)
  have y6 := hid (bnext (bnext y5.out b5.out) hb6)
  have N6 := hid ((N5.out.call b5.out).call hb6)
  have D6 := hid ((D5.out.call b5.out).call hb6)
  have G6 := hid hv6
  clear hb6 hv6 g0 g1 g2
  go_wp2_with fail
  refine (r2_one _).mono ?_
  rintro e w7 ⟨⟨v7, rfl, hv7⟩, hb7⟩
  have z7 := hid (z6.out.call hb7)
  have x7 := hid (x6.out.call hb7)
  have y7 := hid (bnext y6.out hb7)
  have N7 := hid (N6.out.call hb7)
  have D7 := hid (D6.out.call hb7)
  have G7 := hid (G6.out.call hb7)
  have O7 := hid hv7
  clear hb7 hv7
  go_wp2_with fail
  refine (r1_Order _ _ _ _ _ G7.out O7.out).mono ?_
  rintro e w8 ⟨rfl, hb8⟩
  have z8 := hid (z7.out.call hb8)
  have x8 := hid (x7.out.call hb8)
  have y8 := hid (bnext y7.out hb8)
  have N8 := hid (N7.out.call hb8)
  have D8 := hid (D7.out.call hb8)
  clear hb8
  have d0 := x8.out.cell 0
  have d1 := x8.out.cell 1
  have d2 := x8.out.cell 2
  have e0 := x8.out.free 0
  have e1 := x8.out.free 1
  have e2 := x8.out.free 2
  have g0 := z8.out.cell 0
  have g1 := z8.out.cell 1
  have g2 := z8.out.cell 2
  simp at d0 d1 d2 g0 g1 g2
  
  by_cases hG : Nat.gcd (bN D) (bN B) = 1
  · have hO : ordN (Nat.gcd (dv D.data.toList) (dv B.data.toList)) 1 = 0 := by rw [show Nat.gcd (dv D.data.toList) (dv B.data.toList) = 1 from hG]; exact ordN_eq
    have X0 := hid (show xc = 0 from by rw [← HXC.out, if_pos hG])
    rw [hO]
    clear hO hG
    go_wp2_with fail
    obtain ⟨s1, s2⟩ := set3 x8.out M a4 a5 k1 c4 k2 c5
    have f0 := s2.cell 0
    have f1 := s2.cell 1
    have f2 := s2.cell 2
    simp at f0 f1 f2
    refine bodyPost_ret (v := .tuple #[.agg #[.bool M, .slice a4 k1 c4, .slice a5 k2 c5], .int .i64 0]) (by simp [results, Tryz.results37, go_sem, f0, f1, f2]) rfl ⟨by rw [X0.out]; exact ⟨_, rfl, fun _ => ⟨_, _, rfl, s1 _ _ _ N8.out, s1 _ _ _ D8.out⟩, fun h => absurd rfl h⟩, ?_⟩
    exact ((y8.out.setCell (Nat.le_refl _) _).setCell (Nat.le_refl _) _).setCell (Nat.le_refl _) _
  · have hO : (ordN (Nat.gcd (dv D.data.toList) (dv B.data.toList)) 1 != 0) = true := by
      have hG' : ¬ Nat.gcd (dv D.data.toList) (dv B.data.toList) = 1 := hG
      unfold ordN
      split
      · rfl
      · split
        · rfl
        · omega
    have X0 := hid (show xc = 3 from by rw [← HXC.out, if_neg hG])
    obtain ⟨t, ht⟩ : ∃ t, ordN (Nat.gcd (dv D.data.toList) (dv B.data.toList)) 1 = t := ⟨_, rfl⟩
    rw [ht] at hO ⊢
    clear ht hG
    go_wp2_with fail
    obtain ⟨s1, s2⟩ := set3 x8.out false none none 0 0 0 0
    have f0 := s2.cell 0
    have f1 := s2.cell 1
    have f2 := s2.cell 2
    simp at f0 f1 f2
    refine bodyPost_ret (v := .tuple #[.agg #[.bool false, .slice none 0 0, .slice none 0 0], .int .i64 3]) (by simp [results, Tryz.results37, go_sem, f0, f1, f2]) rfl ⟨by rw [X0.out]; exact RetR.err (by decide), ?_⟩
    exact ((y8.out.setCell (Nat.le_refl _) _).setCell (Nat.le_refl _) _).setCell (Nat.le_refl _) _
set_option maxRecDepth 100000 in
set_option maxHeartbeats 1000000 in
theorem rd_int (w : World) (s W B D : ByteArray) (M fb : Bool) (k : Nat) (hs : s.size ≤ 1000000) (HC : CutR s W B D false M true fb k)
    (hl1 : ¬ 4000 < D.size) (hd1 : allDig D.data.toList) :
    Calls Tryz.prog 37 #[.string s] w fun e w' => RetR 0 M (bN D) 1 e w' ∧ Below w.heap.size w w' := by
  have HK := hid HC
  have kle := HC.kle
  have hlt := HC.has
  have cw := hid HC.cutW
  have cb := hid HC.cutB
  clear HC
  have t0 := hid (Blk.new w #[.bool false, .slice none 0 0, .slice none 0 0] 66)
  have t1 := hid ((Below.refl w.heap.size w).alloc (Nat.le_refl _) (.cells #[.bool false, .slice none 0 0, .slice none 0 0] 66))
  have wk : IntKind.i64.wrap ((k : Int) + 1) = (k : Int) + 1 := by rw [IntWalk.i64_in _ ⟨by omega, by omega⟩]
  have q0 := hlt.symm
  clear hlt
  have q1 : decide ((4000 : Int) < (D.size : Int)) = false := by simp; omega
  have L1 := hid (bN_limbs hd1 hl1)
  have L2 : Hid ((limbs 1).length ≤ 1000000) := by show _ ≤ _; rw [limbs_one]; decide
  have P1 := fun W => hid (r1_Read W D hd1 (by omega))
  have P2 : ∀ W, Hid (Calls Tryz.prog 44 #[.string ⟨#[49]⟩] W fun e w' => RetN .i64 1 e w' ∧ Below W.heap.size W w') := fun W => hid (r1_Read W ⟨#[49]⟩ (by intro b hb; simp at hb; subst hb; rfl) (Nat.succ_le_succ (Nat.zero_le _)))
  have hO : ordN (Nat.gcd (dv D.data.toList) 1) 1 = 0 := by rw [Nat.gcd_one_right]; exact ordN_eq
  have HO := hid hO
  clear hd1 hl1 hO
  go_enter Tryz.func37, Tryz.ntmps37
  go_wp2_with (first
    | (go_at_call 80; refine (HK.out.sl _).mono ?_; rintro e w1 ⟨rfl, rfl⟩)
    | (go_at_call 54; rw [cw.out]; refine (HK.out.int _).mono ?_; rintro e w2 ⟨rfl, rfl⟩)
    | (go_at_call 81; (first | rw [cb.out trivial] | rw [cb.out rfl]); refine (HK.out.form _).mono ?_; rintro e w3 ⟨rfl, rfl⟩)
    | fail)
  refine (P1 _).out.mono ?_; rintro e w4 ⟨⟨v4, rfl, hv4⟩, hb4⟩
  have x4 := hid (t0.out.call hb4)
  have y4 := hid (bnext t1.out hb4)
  have N4 := hid hv4
  clear hb4 hv4
  obtain ⟨a4, c4, rfl, _⟩ := N4.out.openI
  obtain ⟨k1, hk1⟩ : ∃ k, (limbs (dv D.data.toList)).length = k := ⟨_, rfl⟩
  rw [hk1] at N4 ⊢
  clear P1
  go_wp2_with fail
  refine (P2 _).out.mono ?_; rintro e w5 ⟨⟨v5, rfl, hv5⟩, hb5⟩
  have x5 := hid (x4.out.call hb5)
  have y5 := hid (bnext y4.out hb5)
  have N5 := hid (N4.out.call hb5)
  have D5 := hid hv5
  clear hb5 hv5
  obtain ⟨a5, c5, rfl, _⟩ := D5.out.openI
  obtain ⟨k2, hk2⟩ : ∃ k, (limbs 1).length = k := ⟨_, rfl⟩
  rw [hk2] at D5 ⊢
  clear P2
  go_wp2_with fail
  have z5 := hid (Blk.new w5 #[.bool M, .slice a4 k1 c4, .slice a5 k2 c5] 66)
  have b5 := hid ((Below.refl w5.heap.size w5).alloc (Nat.le_refl _) (.cells #[.bool M, .slice a4 k1 c4, .slice a5 k2 c5] 66))
  have g0 := z5.out.cell 0
  have g1 := z5.out.cell 1
  have g2 := z5.out.cell 2
  simp at g0 g1 g2
  go_wp2_with fail
  refine (r1_Common _ _ _ _ _ (N5.out.call b5.out) (D5.out.call b5.out) L1.out L2.out).mono ?_
  rintro e w6 ⟨⟨v6, rfl, hv6⟩, hb6⟩
  have z6 := hid (z5.out.call hb6)
  have x6 := hid ((x5.out.call b5.out).call hb6)
  have y6 := hid (bnext (bnext y5.out b5.out) hb6)
  have N6 := hid ((N5.out.call b5.out).call hb6)
  have D6 := hid ((D5.out.call b5.out).call hb6)
  have G6 := hid hv6
  clear hb6 hv6 g0 g1 g2
  go_wp2_with fail
  refine (r2_one _).mono ?_
  rintro e w7 ⟨⟨v7, rfl, hv7⟩, hb7⟩
  have z7 := hid (z6.out.call hb7)
  have x7 := hid (x6.out.call hb7)
  have y7 := hid (bnext y6.out hb7)
  have N7 := hid (N6.out.call hb7)
  have D7 := hid (D6.out.call hb7)
  have G7 := hid (G6.out.call hb7)
  have O7 := hid hv7
  clear hb7 hv7
  go_wp2_with fail
  refine (r1_Order _ _ _ _ _ G7.out O7.out).mono ?_
  rintro e w8 ⟨rfl, hb8⟩
  have z8 := hid (z7.out.call hb8)
  have x8 := hid (x7.out.call hb8)
  have y8 := hid (bnext y7.out hb8)
  have N8 := hid (N7.out.call hb8)
  have D8 := hid (D7.out.call hb8)
  clear hb8
  have d0 := x8.out.cell 0
  have d1 := x8.out.cell 1
  have d2 := x8.out.cell 2
  have e0 := x8.out.free 0
  have e1 := x8.out.free 1
  have e2 := x8.out.free 2
  have g0 := z8.out.cell 0
  have g1 := z8.out.cell 1
  have g2 := z8.out.cell 2
  simp at d0 d1 d2 g0 g1 g2
  
  rw [HO.out]
  go_wp2_with fail
  obtain ⟨s1, s2⟩ := set3 x8.out M a4 a5 k1 c4 k2 c5
  have f0 := s2.cell 0
  have f1 := s2.cell 1
  have f2 := s2.cell 2
  simp at f0 f1 f2
  refine bodyPost_ret (v := .tuple #[.agg #[.bool M, .slice a4 k1 c4, .slice a5 k2 c5], .int .i64 0]) (by simp [results, Tryz.results37, go_sem, f0, f1, f2]) rfl ⟨⟨_, rfl, fun _ => ⟨_, _, rfl, s1 _ _ _ N8.out, s1 _ _ _ D8.out⟩, fun h => absurd rfl h⟩, ?_⟩
  exact ((y8.out.setCell (Nat.le_refl _) _).setCell (Nat.le_refl _) _).setCell (Nat.le_refl _) _
theorem r2_Read0 (w : World) (s : ByteArray) (hs : s.size ≤ 1000000) :
    Calls Tryz.prog 37 #[.string s] w fun e w' => RetR (qE s) (iM (cW s)) (bN (iD (cW s))) (bN (qD s)) e w' ∧ Below w.heap.size w w' := by
  have HC := cutR_of s hs
  by_cases hq : qB s = true
  · have hi := qB_whole hq
    rw [hi] at HC
    have hdD := fB_dig (iB_form hi)
    have hcS : cS s = false ∨ (cS s = true ∧ ¬ iD (cW s) = ⟨#[48]⟩ ∧ ¬ cB s = ⟨#[48]⟩ ∧ ¬ cB s = ⟨#[49]⟩ ∧ fB (cB s) = true) := by
      have hq' := hq
      unfold qB at hq'
      simp only [Bool.and_eq_true, Bool.or_eq_true, Bool.not_eq_true', decide_eq_true_eq] at hq'
      rcases hq'.2 with h | h
      · exact .inl h
      · cases hc : cS s
        · exact .inl rfl
        · exact .inr ⟨rfl, h.1.1.1, h.1.2, h.2, h.1.1.2⟩
    by_cases hl : qL s = true
    · have e : qE s = 5 := by simp [qE, hq, hl]
      rw [e]
      unfold qL at hl
      simp only [Bool.or_eq_true, decide_eq_true_eq] at hl
      refine (rd_long w s _ _ _ _ _ _ _ hs HC hcS ?_).mono ?_
      · by_cases h4 : 4000 < (iD (cW s)).size
        · exact .inl h4
        · refine .inr ⟨h4, ?_⟩
          rcases hcS with hc | ⟨hc, -⟩
          · rw [qD_false hc] at hl
            exact absurd (hl.resolve_left h4) (by decide)
          · rw [qD_true hc] at hl
            exact ⟨hc, hl.resolve_left h4⟩
      · rintro e w' ⟨rfl, hb⟩
        exact ⟨RetR.err (by decide), hb⟩
    · have hl' : qL s = false := by simpa using hl
      have hl1 : ¬ 4000 < (iD (cW s)).size ∧ ¬ 4000 < (qD s).size := by
        unfold qL at hl'
        simpa using hl'
      rcases hcS with hc | ⟨hc, h1, h2, h3, h4⟩
      · rw [hc] at HC
        have e : qE s = 0 := by simp [qE, hq, hl', qG, hc]
        rw [e, qD_false hc]
        exact rd_int w s _ _ _ _ _ _ hs HC hl1.1 hdD
      · rw [hc, h4] at HC
        have hl2 := hl1.2
        rw [qD_true hc] at hl2
        have e : qE s = if Nat.gcd (bN (iD (cW s))) (bN (cB s)) = 1 then 0 else 3 := by
          simp only [qE, hq, hl', qG, hc, qD_true hc]
          by_cases hg : Nat.gcd (bN (iD (cW s))) (bN (cB s)) = 1 <;> simp [hg]
        rw [e, qD_true hc]
        exact rd_frac w s _ _ _ _ _ hs HC h1 h2 h3 hl1.1 hl2 hdD (fB_dig h4)
  · have hq' : qB s = false := by simpa using hq
    have e : qE s = 3 := by simp [qE, hq']
    rw [e]
    refine (rd_bad w s _ _ _ _ _ _ _ _ hs HC hq').mono ?_
    rintro e w' ⟨rfl, hb⟩
    exact ⟨RetR.err (by decide), hb⟩
/-- Read gives the number of a right text, and the error. -/
def RetQE (s : ByteArray) (e : Ending) (w' : World) : Prop := ∃ v, e = .returned (.tuple #[v, .int .i64 (qE s)]) ∧ (qE s = 0 → IsQ .i64 w' v (vQ s)) ∧ (qE s ≠ 0 → v = .agg #[.bool false, .slice none 0 0, .slice none 0 0])
theorem r2_Read (w : World) (s : ByteArray) (hs : s.size ≤ 1000000) :
    Calls Tryz.prog 37 #[.string s] w fun e w' => RetQE s e w' ∧ Below w.heap.size w w' := by
  refine (r2_Read0 w s hs).mono ?_
  rintro e w' ⟨⟨v, rfl, h1, h2⟩, hb⟩
  refine ⟨⟨v, rfl, fun h => ?_, h2⟩, hb⟩
  obtain ⟨N, D, rfl, hN, hD⟩ := h1 h
  obtain ⟨e1, e2, e3⟩ := vQ_ok h
  exact ⟨N, D, by rw [e1], by rw [e2]; exact hN, by rw [e3]; exact hD⟩
end Go.Proofs.YtpehhgkghgbhiaaGreatDoor
namespace Go.Proofs.YtpehhgkghgbhiaaGreatDoor
open Go.RowKit
open Go.Lib (decDigits nDigits)
set_option linter.unusedVariables false
set_option linter.unusedSimpArgs false
/-- The ways of Write. -/
def WrKey (m : Bool) (B1 B2 T : ByteArray) (x : Int) : Prop :=
  (4000 < B1.size ∧ T = ⟨#[]⟩ ∧ x = 5) ∨ (B1.size ≤ 4000 ∧ 4000 < B2.size ∧ T = ⟨#[]⟩ ∧ x = 5) ∨
  (B1.size ≤ 4000 ∧ B2.size ≤ 4000 ∧ x = 0 ∧ ((m = false ∧ B2 = ⟨#[49]⟩ ∧ T = B1) ∨ (m = true ∧ B2 = ⟨#[49]⟩ ∧ T = ⟨#[45]⟩ ++ B1) ∨ (m = false ∧ ¬ B2 = ⟨#[49]⟩ ∧ T = B1 ++ ⟨#[47]⟩ ++ B2) ∨ (m = true ∧ ¬ B2 = ⟨#[49]⟩ ∧ T = ⟨#[45]⟩ ++ B1 ++ ⟨#[47]⟩ ++ B2)))
set_option maxRecDepth 100000 in
set_option maxHeartbeats 4000000 in
theorem r2_Write_walk (w : World) (m : Bool) (N D : Value) (n d : Nat) (B1 B2 T : ByteArray) (x : Int) (hn : IsN .i64 w N n) (hd : IsN .i64 w D d) (hln : (limbs n).length ≤ 1000000) (hld : (limbs d).length ≤ 1000000)
    (e1 : numB n = B1) (e2 : numB d = B2) (key : WrKey m B1 B2 T x) :
    Calls Tryz.prog 41 #[.agg #[.bool m, N, D]] w fun e w' => e = .returned (.tuple #[.string T, .int .i64 x]) ∧ Below w.heap.size w w' := by
  have HN := hid hn; have HD := hid hd; have LN := hid hln; have LD := hid hld; have E1 := hid e1; have E2 := hid e2
  obtain ⟨a1, c1, rfl, _⟩ := hn.openI
  obtain ⟨a2, c2, rfl, _⟩ := hd.openI
  obtain ⟨k1, hk1⟩ : ∃ k, (limbs n).length = k := ⟨_, rfl⟩
  obtain ⟨k2, hk2⟩ : ∃ k, (limbs d).length = k := ⟨_, rfl⟩
  rw [hk1] at HN ⊢
  rw [hk2] at HD ⊢
  clear hn hd hln hld e1 e2 hk1 hk2
  unfold WrKey at key
  rcases key with ⟨h1, rfl, rfl⟩ | ⟨h1, h2, rfl, rfl⟩ | ⟨h1, h2, rfl, ⟨rfl, rfl, rfl⟩ | ⟨rfl, rfl, rfl⟩ | ⟨rfl, h3, rfl⟩ | ⟨rfl, h3, rfl⟩⟩
  · have q0 : decide ((4000 : Int) < (B1.size : Int)) = true := by simp; omega
    clear h1
    go_enter Tryz.func41, Tryz.ntmps41
    go_wp2_with fail
    obtain ⟨W, hW⟩ : ∃ W, w.alloc (.cells #[.bool m, .slice a1 k1 c1, .slice a2 k2 c2] 66) = W := ⟨_, rfl⟩
    rw [hW]
    have X0 : Below w.heap.size w W := by rw [← hW]; exact (Below.refl _ _).alloc (Nat.le_refl _) _
    have Y0 : Blk W w.heap.size #[.bool m, .slice a1 k1 c1, .slice a2 k2 c2] 66 := by rw [← hW]; exact Blk.new w _ _
    have K : Hid (∀ w', Below W.heap.size W w' → w'.cell? ⟨w.heap.size, 0, none⟩ = some (.bool m) ∧ w'.cell? ⟨w.heap.size, 1, none⟩ = some (.slice a1 k1 c1) ∧ w'.cell? ⟨w.heap.size, 2, none⟩ = some (.slice a2 k2 c2)) :=
      fun w' hb => ⟨(Y0.call hb).cell 0, (Y0.call hb).cell 1, (Y0.call hb).cell 2⟩
    have HX0 := hid X0
    obtain ⟨k0, k1', k2'⟩ := K W (Below.refl _ _)
    have XN := hid (HN.out.call HX0.out); have XD := hid (HD.out.call HX0.out)
    clear Y0 X0 hW
    go_region_held3 (fun w' => w'.cell? ⟨w.heap.size, 0, none⟩ = some (.bool m) ∧ w'.cell? ⟨w.heap.size, 1, none⟩ = some (.slice a1 k1 c1) ∧ w'.cell? ⟨w.heap.size, 2, none⟩ = some (.slice a2 k2 c2))
      (first
        | exact K.out _ (Below.refl _ _).drew
        | exact K.out _ bb2.out
        | exact K.out _ bb1.out)
      (first
        | (go_at_call_of 47 (Value.slice a1 k1 c1); refine (r1_Write _ _ n (XN.out.call (by first | exact bb2.out | exact (Below.refl _ _).drew)) LN.out).mono ?_; rintro e w1 ⟨rfl, hb1⟩; rw [numV_eq, E1.out]; have bb1 := hid (bnext (by first | exact bb2.out | exact (Below.refl _ _).drew) hb1))
        | (go_at_call_of 47 (Value.slice a2 k2 c2); refine (r1_Write _ _ d (XD.out.call (by first | exact bb1.out | exact (Below.refl _ _).drew)) LD.out).mono ?_; rintro e w2 ⟨rfl, hb2⟩; rw [numV_eq, E2.out]; have bb2 := hid (bnext (by first | exact bb1.out | exact (Below.refl _ _).drew) hb2)))
    go_wp2_with fail
    go_ret2
    exact ⟨rfl, bnext HX0.out bb2.out⟩
  · have q0 : decide ((4000 : Int) < (B1.size : Int)) = false := by simp; omega
    have q1 : decide ((4000 : Int) < (B2.size : Int)) = true := by simp; omega
    clear h1 h2
    go_enter Tryz.func41, Tryz.ntmps41
    go_wp2_with fail
    obtain ⟨W, hW⟩ : ∃ W, w.alloc (.cells #[.bool m, .slice a1 k1 c1, .slice a2 k2 c2] 66) = W := ⟨_, rfl⟩
    rw [hW]
    have X0 : Below w.heap.size w W := by rw [← hW]; exact (Below.refl _ _).alloc (Nat.le_refl _) _
    have Y0 : Blk W w.heap.size #[.bool m, .slice a1 k1 c1, .slice a2 k2 c2] 66 := by rw [← hW]; exact Blk.new w _ _
    have K : Hid (∀ w', Below W.heap.size W w' → w'.cell? ⟨w.heap.size, 0, none⟩ = some (.bool m) ∧ w'.cell? ⟨w.heap.size, 1, none⟩ = some (.slice a1 k1 c1) ∧ w'.cell? ⟨w.heap.size, 2, none⟩ = some (.slice a2 k2 c2)) :=
      fun w' hb => ⟨(Y0.call hb).cell 0, (Y0.call hb).cell 1, (Y0.call hb).cell 2⟩
    have HX0 := hid X0
    obtain ⟨k0, k1', k2'⟩ := K W (Below.refl _ _)
    have XN := hid (HN.out.call HX0.out); have XD := hid (HD.out.call HX0.out)
    clear Y0 X0 hW
    go_region_held3 (fun w' => w'.cell? ⟨w.heap.size, 0, none⟩ = some (.bool m) ∧ w'.cell? ⟨w.heap.size, 1, none⟩ = some (.slice a1 k1 c1) ∧ w'.cell? ⟨w.heap.size, 2, none⟩ = some (.slice a2 k2 c2))
      (first
        | exact K.out _ (Below.refl _ _).drew
        | exact K.out _ bb2.out
        | exact K.out _ bb1.out)
      (first
        | (go_at_call_of 47 (Value.slice a1 k1 c1); refine (r1_Write _ _ n (XN.out.call (by first | exact bb2.out | exact (Below.refl _ _).drew)) LN.out).mono ?_; rintro e w1 ⟨rfl, hb1⟩; rw [numV_eq, E1.out]; have bb1 := hid (bnext (by first | exact bb2.out | exact (Below.refl _ _).drew) hb1))
        | (go_at_call_of 47 (Value.slice a2 k2 c2); refine (r1_Write _ _ d (XD.out.call (by first | exact bb1.out | exact (Below.refl _ _).drew)) LD.out).mono ?_; rintro e w2 ⟨rfl, hb2⟩; rw [numV_eq, E2.out]; have bb2 := hid (bnext (by first | exact bb1.out | exact (Below.refl _ _).drew) hb2)))
    go_wp2_with fail
    go_ret2
    exact ⟨rfl, bnext HX0.out bb2.out⟩
  · have q0 : decide ((4000 : Int) < (T.size : Int)) = false := by simp; omega
    clear h2
    go_enter Tryz.func41, Tryz.ntmps41
    go_wp2_with fail
    obtain ⟨W, hW⟩ : ∃ W, w.alloc (.cells #[.bool false, .slice a1 k1 c1, .slice a2 k2 c2] 66) = W := ⟨_, rfl⟩
    rw [hW]
    have X0 : Below w.heap.size w W := by rw [← hW]; exact (Below.refl _ _).alloc (Nat.le_refl _) _
    have Y0 : Blk W w.heap.size #[.bool false, .slice a1 k1 c1, .slice a2 k2 c2] 66 := by rw [← hW]; exact Blk.new w _ _
    have K : Hid (∀ w', Below W.heap.size W w' → w'.cell? ⟨w.heap.size, 0, none⟩ = some (.bool false) ∧ w'.cell? ⟨w.heap.size, 1, none⟩ = some (.slice a1 k1 c1) ∧ w'.cell? ⟨w.heap.size, 2, none⟩ = some (.slice a2 k2 c2)) :=
      fun w' hb => ⟨(Y0.call hb).cell 0, (Y0.call hb).cell 1, (Y0.call hb).cell 2⟩
    have HX0 := hid X0
    obtain ⟨k0, k1', k2'⟩ := K W (Below.refl _ _)
    have XN := hid (HN.out.call HX0.out); have XD := hid (HD.out.call HX0.out)
    clear Y0 X0 hW
    go_region_held3 (fun w' => w'.cell? ⟨w.heap.size, 0, none⟩ = some (.bool false) ∧ w'.cell? ⟨w.heap.size, 1, none⟩ = some (.slice a1 k1 c1) ∧ w'.cell? ⟨w.heap.size, 2, none⟩ = some (.slice a2 k2 c2))
      (first
        | exact K.out _ (Below.refl _ _).drew
        | exact K.out _ bb2.out
        | exact K.out _ bb1.out)
      (first
        | (go_at_call_of 47 (Value.slice a1 k1 c1); refine (r1_Write _ _ n (XN.out.call (by first | exact bb2.out | exact (Below.refl _ _).drew)) LN.out).mono ?_; rintro e w1 ⟨rfl, hb1⟩; rw [numV_eq, E1.out]; have bb1 := hid (bnext (by first | exact bb2.out | exact (Below.refl _ _).drew) hb1))
        | (go_at_call_of 47 (Value.slice a2 k2 c2); refine (r1_Write _ _ d (XD.out.call (by first | exact bb1.out | exact (Below.refl _ _).drew)) LD.out).mono ?_; rintro e w2 ⟨rfl, hb2⟩; rw [numV_eq, E2.out]; have bb2 := hid (bnext (by first | exact bb1.out | exact (Below.refl _ _).drew) hb2)))
    go_wp2_with fail
    go_ret2
    exact ⟨rfl, bnext HX0.out bb2.out⟩
  · have q0 : decide ((4000 : Int) < (B1.size : Int)) = false := by simp; omega
    clear h2
    go_enter Tryz.func41, Tryz.ntmps41
    go_wp2_with fail
    obtain ⟨W, hW⟩ : ∃ W, w.alloc (.cells #[.bool true, .slice a1 k1 c1, .slice a2 k2 c2] 66) = W := ⟨_, rfl⟩
    rw [hW]
    have X0 : Below w.heap.size w W := by rw [← hW]; exact (Below.refl _ _).alloc (Nat.le_refl _) _
    have Y0 : Blk W w.heap.size #[.bool true, .slice a1 k1 c1, .slice a2 k2 c2] 66 := by rw [← hW]; exact Blk.new w _ _
    have K : Hid (∀ w', Below W.heap.size W w' → w'.cell? ⟨w.heap.size, 0, none⟩ = some (.bool true) ∧ w'.cell? ⟨w.heap.size, 1, none⟩ = some (.slice a1 k1 c1) ∧ w'.cell? ⟨w.heap.size, 2, none⟩ = some (.slice a2 k2 c2)) :=
      fun w' hb => ⟨(Y0.call hb).cell 0, (Y0.call hb).cell 1, (Y0.call hb).cell 2⟩
    have HX0 := hid X0
    obtain ⟨k0, k1', k2'⟩ := K W (Below.refl _ _)
    have XN := hid (HN.out.call HX0.out); have XD := hid (HD.out.call HX0.out)
    clear Y0 X0 hW
    go_region_held3 (fun w' => w'.cell? ⟨w.heap.size, 0, none⟩ = some (.bool true) ∧ w'.cell? ⟨w.heap.size, 1, none⟩ = some (.slice a1 k1 c1) ∧ w'.cell? ⟨w.heap.size, 2, none⟩ = some (.slice a2 k2 c2))
      (first
        | exact K.out _ (Below.refl _ _).drew
        | exact K.out _ bb2.out
        | exact K.out _ bb1.out)
      (first
        | (go_at_call_of 47 (Value.slice a1 k1 c1); refine (r1_Write _ _ n (XN.out.call (by first | exact bb2.out | exact (Below.refl _ _).drew)) LN.out).mono ?_; rintro e w1 ⟨rfl, hb1⟩; rw [numV_eq, E1.out]; have bb1 := hid (bnext (by first | exact bb2.out | exact (Below.refl _ _).drew) hb1))
        | (go_at_call_of 47 (Value.slice a2 k2 c2); refine (r1_Write _ _ d (XD.out.call (by first | exact bb1.out | exact (Below.refl _ _).drew)) LD.out).mono ?_; rintro e w2 ⟨rfl, hb2⟩; rw [numV_eq, E2.out]; have bb2 := hid (bnext (by first | exact bb1.out | exact (Below.refl _ _).drew) hb2)))
    go_wp2_with fail
    go_ret2
    exact ⟨rfl, bnext HX0.out bb2.out⟩
  · have q0 : decide ((4000 : Int) < (B1.size : Int)) = false := by simp; omega
    have q1 : decide ((4000 : Int) < (B2.size : Int)) = false := by simp; omega
    have i3 := ne_lit (l := [49]) h3
    go_enter Tryz.func41, Tryz.ntmps41
    go_wp2_with fail
    obtain ⟨W, hW⟩ : ∃ W, w.alloc (.cells #[.bool false, .slice a1 k1 c1, .slice a2 k2 c2] 66) = W := ⟨_, rfl⟩
    rw [hW]
    have X0 : Below w.heap.size w W := by rw [← hW]; exact (Below.refl _ _).alloc (Nat.le_refl _) _
    have Y0 : Blk W w.heap.size #[.bool false, .slice a1 k1 c1, .slice a2 k2 c2] 66 := by rw [← hW]; exact Blk.new w _ _
    have K : Hid (∀ w', Below W.heap.size W w' → w'.cell? ⟨w.heap.size, 0, none⟩ = some (.bool false) ∧ w'.cell? ⟨w.heap.size, 1, none⟩ = some (.slice a1 k1 c1) ∧ w'.cell? ⟨w.heap.size, 2, none⟩ = some (.slice a2 k2 c2)) :=
      fun w' hb => ⟨(Y0.call hb).cell 0, (Y0.call hb).cell 1, (Y0.call hb).cell 2⟩
    have HX0 := hid X0
    obtain ⟨k0, k1', k2'⟩ := K W (Below.refl _ _)
    have XN := hid (HN.out.call HX0.out); have XD := hid (HD.out.call HX0.out)
    clear Y0 X0 hW
    go_region_held3 (fun w' => w'.cell? ⟨w.heap.size, 0, none⟩ = some (.bool false) ∧ w'.cell? ⟨w.heap.size, 1, none⟩ = some (.slice a1 k1 c1) ∧ w'.cell? ⟨w.heap.size, 2, none⟩ = some (.slice a2 k2 c2))
      (first
        | exact K.out _ (Below.refl _ _).drew
        | exact K.out _ bb2.out
        | exact K.out _ bb1.out)
      (first
        | (go_at_call_of 47 (Value.slice a1 k1 c1); refine (r1_Write _ _ n (XN.out.call (by first | exact bb2.out | exact (Below.refl _ _).drew)) LN.out).mono ?_; rintro e w1 ⟨rfl, hb1⟩; rw [numV_eq, E1.out]; have bb1 := hid (bnext (by first | exact bb2.out | exact (Below.refl _ _).drew) hb1))
        | (go_at_call_of 47 (Value.slice a2 k2 c2); refine (r1_Write _ _ d (XD.out.call (by first | exact bb1.out | exact (Below.refl _ _).drew)) LD.out).mono ?_; rintro e w2 ⟨rfl, hb2⟩; rw [numV_eq, E2.out]; have bb2 := hid (bnext (by first | exact bb1.out | exact (Below.refl _ _).drew) hb2)))
    go_wp2_with fail
    go_ret2
    exact ⟨rfl, bnext HX0.out bb2.out⟩
  · have q0 : decide ((4000 : Int) < (B1.size : Int)) = false := by simp; omega
    have q1 : decide ((4000 : Int) < (B2.size : Int)) = false := by simp; omega
    have i3 := ne_lit (l := [49]) h3
    go_enter Tryz.func41, Tryz.ntmps41
    go_wp2_with fail
    obtain ⟨W, hW⟩ : ∃ W, w.alloc (.cells #[.bool true, .slice a1 k1 c1, .slice a2 k2 c2] 66) = W := ⟨_, rfl⟩
    rw [hW]
    have X0 : Below w.heap.size w W := by rw [← hW]; exact (Below.refl _ _).alloc (Nat.le_refl _) _
    have Y0 : Blk W w.heap.size #[.bool true, .slice a1 k1 c1, .slice a2 k2 c2] 66 := by rw [← hW]; exact Blk.new w _ _
    have K : Hid (∀ w', Below W.heap.size W w' → w'.cell? ⟨w.heap.size, 0, none⟩ = some (.bool true) ∧ w'.cell? ⟨w.heap.size, 1, none⟩ = some (.slice a1 k1 c1) ∧ w'.cell? ⟨w.heap.size, 2, none⟩ = some (.slice a2 k2 c2)) :=
      fun w' hb => ⟨(Y0.call hb).cell 0, (Y0.call hb).cell 1, (Y0.call hb).cell 2⟩
    have HX0 := hid X0
    obtain ⟨k0, k1', k2'⟩ := K W (Below.refl _ _)
    have XN := hid (HN.out.call HX0.out); have XD := hid (HD.out.call HX0.out)
    clear Y0 X0 hW
    go_region_held3 (fun w' => w'.cell? ⟨w.heap.size, 0, none⟩ = some (.bool true) ∧ w'.cell? ⟨w.heap.size, 1, none⟩ = some (.slice a1 k1 c1) ∧ w'.cell? ⟨w.heap.size, 2, none⟩ = some (.slice a2 k2 c2))
      (first
        | exact K.out _ (Below.refl _ _).drew
        | exact K.out _ bb2.out
        | exact K.out _ bb1.out)
      (first
        | (go_at_call_of 47 (Value.slice a1 k1 c1); refine (r1_Write _ _ n (XN.out.call (by first | exact bb2.out | exact (Below.refl _ _).drew)) LN.out).mono ?_; rintro e w1 ⟨rfl, hb1⟩; rw [numV_eq, E1.out]; have bb1 := hid (bnext (by first | exact bb2.out | exact (Below.refl _ _).drew) hb1))
        | (go_at_call_of 47 (Value.slice a2 k2 c2); refine (r1_Write _ _ d (XD.out.call (by first | exact bb1.out | exact (Below.refl _ _).drew)) LD.out).mono ?_; rintro e w2 ⟨rfl, hb2⟩; rw [numV_eq, E2.out]; have bb2 := hid (bnext (by first | exact bb1.out | exact (Below.refl _ _).drew) hb2)))
    go_wp2_with fail
    go_ret2
    exact ⟨rfl, bnext HX0.out bb2.out⟩
theorem numB_is1 {d : Nat} : numB d = ⟨#[49]⟩ ↔ d = 1 := by
  constructor
  · intro h
    rw [← numB_one] at h
    rcases Nat.decEq d 1 with h1 | h1
    · exact absurd h (numB_ne h1)
    · exact h1
  · rintro rfl; exact numB_one
theorem r2_Write (w : World) (v : Value) (q : Rat) (h : IsQ .i64 w v q) (h1 : (limbs q.num.natAbs).length ≤ 1000000) (h2 : (limbs q.den).length ≤ 1000000) :
    Calls Tryz.prog 41 #[v] w fun e w' => e = .returned (.tuple #[.string (outB q), .int .i64 (outE q)]) ∧ Below w.heap.size w w' := by
  obtain ⟨N, D, rfl, hn, hd⟩ := h.ex
  refine r2_Write_walk w _ N D q.num.natAbs q.den (numB q.num.natAbs) (numB q.den) (outB q) (outE q) hn hd h1 h2 rfl rfl ?_
  unfold WrKey outB outE
  rw [numB_size, numB_size]
  by_cases o1 : 4000 < nDigits q.num.natAbs
  · have ho : ovQ q := .inl o1
    rw [if_pos ho, if_pos ho]
    exact .inl ⟨o1, rfl, rfl⟩
  · by_cases o2 : 4000 < nDigits q.den
    · have ho : ovQ q := .inr o2
      rw [if_pos ho, if_pos ho]
      exact .inr (.inl ⟨by omega, o2, rfl, rfl⟩)
    · have ho : ¬ ovQ q := fun h => h.elim o1 o2
      rw [if_neg ho, if_neg ho]
      refine .inr (.inr ⟨by omega, by omega, rfl, ?_⟩)
      unfold txQ
      rw [numB_is1]
      generalize decide (q.num < 0) = m
      by_cases hd1 : q.den = 1
      · rw [hd1]
        cases m
        · exact .inl ⟨rfl, rfl, ba_ext (by simp [txB, numB])⟩
        · exact .inr (.inl ⟨rfl, rfl, ba_ext (by simp [txB, numB])⟩)
      · cases m
        · exact .inr (.inr (.inl ⟨rfl, hd1, ba_ext (by simp [txB, numB, hd1])⟩))
        · exact .inr (.inr (.inr ⟨rfl, hd1, ba_ext (by simp [txB, numB, hd1])⟩))
end Go.Proofs.YtpehhgkghgbhiaaGreatDoor
namespace Go.Proofs.YtpehhgkghgbhiaaGreatDoor
open Go.RowKit
set_option linter.unusedVariables false
theorem neg_parts {q : Rat} {m : Bool} (hm : decide (q.num < 0) = m) : decide ((-q).num < 0) = (!m && decide (0 < q.num.natAbs)) ∧ (-q).num.natAbs = q.num.natAbs ∧ (-q).den = q.den := by
  refine ⟨?_, by rw [Rat.neg_num, Int.natAbs_neg], Rat.neg_den q⟩
  rw [Rat.neg_num, ← hm, Bool.eq_iff_iff]
  simp only [Bool.and_eq_true, Bool.not_eq_true', decide_eq_true_eq, decide_eq_false_iff_not]
  omega
theorem r2_Negative (w : World) (v : Value) (q : Rat) (h : IsQ .i64 w v q) :
    Calls Tryz.prog 85 #[v] w fun e w' => RetQ .i64 (-q) e w' ∧ Below w.heap.size w w' := by
  obtain ⟨N, D, rfl, hn, hd⟩ := h.ex
  obtain ⟨m, hm⟩ : ∃ m, decide (q.num < 0) = m := ⟨_, rfl⟩
  have HN := hid hn; have HD := hid hd; have HP := hid (neg_parts hm)
  rw [hm]
  obtain ⟨a1, c1, rfl, _⟩ := hn.openI
  obtain ⟨a2, c2, rfl, _⟩ := hd.openI
  clear hn hd hm h
  obtain ⟨l, hl⟩ : ∃ l, (limbs q.num.natAbs).length = l := ⟨_, rfl⟩
  have hz : decide (0 < l) = decide (0 < q.num.natAbs) := by
    have h1 : l = 0 ↔ q.num.natAbs = 0 := by rw [← hl, List.length_eq_zero_iff, limbs_nil]
    exact decide_eq_decide.2 (by omega)
  have HZ := hid hz; have HL := hid hl
  rw [hl]
  clear hz hl
  go_enter Tryz.func85, Tryz.ntmps85
  go_wp2_with fail
  all_goals
    obtain ⟨p1, p2, p3⟩ := HP.out
    rw [← HZ.out] at p1
    refine bodyPost_ret (v := .agg #[_, .slice a1 l c1, .slice a2 (limbs q.den).length c2]) (by simp [results, Tryz.results85, go_sem]; rfl) rfl ⟨⟨_, rfl, ⟨.slice a1 l c1, .slice a2 (limbs q.den).length c2, ?_, ?_, ?_⟩⟩, ?_⟩
    · rw [p1]; clear HP HZ HL HN HD; simp_all
    · have hh := HN.out
      rw [HL.out] at hh
      rw [p2]; exact hh.call (((Below.refl w.heap.size w).alloc (Nat.le_refl _) _).alloc (by simp) _)
    · rw [p3]; exact HD.out.call (((Below.refl w.heap.size w).alloc (Nat.le_refl _) _).alloc (by simp) _)
    · exact (((Below.refl w.heap.size w).alloc (Nat.le_refl _) _).alloc (by simp) _)
end Go.Proofs.YtpehhgkghgbhiaaGreatDoor
namespace Go.Proofs.YtpehhgkghgbhiaaGreatDoor
open Go.RowKit
set_option linter.unusedVariables false
set_option maxHeartbeats 4000000 in
theorem r1_Plus (w : World) (v u : Value) (a b : Nat) (ha : IsN .i64 w v a) (hb : IsN .i64 w u b) (hla : (limbs a).length ≤ 1000000) (hlb : (limbs b).length ≤ 1000000) :
    Calls Tryz.prog 43 #[v, u] w fun e w' => RetN .i64 (a + b) e w' ∧ Below w.heap.size w w' := by
  obtain ⟨i0, hi, hz0, hz1, hz2⟩ := info_parts info_int
  obtain ⟨a1, c1, rfl, h1, h2, h3⟩ := ha.openI
  obtain ⟨a2, c2, rfl, k1, k2, k3⟩ := hb.openI
  have H3 := hid h3; have K3 := hid k3; clear h3 k3 ha hb
  obtain ⟨n, ea⟩ : ∃ n, (limbs a).length = n := ⟨_, rfl⟩
  obtain ⟨m, eb⟩ : ∃ m, (limbs b).length = m := ⟨_, rfl⟩
  rw [ea] at h1 hla ⊢
  rw [eb] at k1 hlb ⊢
  have HA := hid ea; have HB := hid eb
  clear ea eb
  go_enter Tryz.func43, Tryz.ntmps43
  go_wp2_with fail
  go_loopw [5, 6, 7] (fun o cc i wr => ∃ (s : List Nat) (c : Nat) (C : Int), i = .int .i64 s.length ∧ cc = .int .i64 C ∧ C = (c : Int) ∧ c ≤ 1 ∧ s.length ≤ 1000001 ∧ (s.length ≤ n ∨ s.length ≤ m ∨ c = 0) ∧ Hid (PlusI a b s c) ∧ Hid (wr.ownsRow w.heap.size 3 1 o s.length (ints .i64 s)) ∧ Hid (Below w.heap.size w wr))
    (fun _ _ i _ => 1000002 - (intOf i).toNat)
  case atStart => exact ⟨[], 0, 0, rfl, rfl, rfl, by omega, by simp, .inl (by simp), PlusI.start a b, World.ownsRow_nil _ _ _ _, Below.refl _ _⟩
  case round =>
    obtain ⟨s, c, C, rfl, rfl, hC, hc1, hs1, hs2, hP, hO, hB⟩ := hrel
    obtain ⟨ao, co, rfl⟩ := owns_ex hO.out
    by_cases hA : s.length < n
    · obtain ⟨x, hx⟩ : ∃ x, (limbs a)[s.length]? = some x := ⟨_, List.getElem?_eq_getElem (by rw [HA.out]; exact hA)⟩
      obtain ⟨g, og, rfl, hg, hc⟩ := H3.out _ x hx
      have hc' := (hB.out.cell (p := ⟨g, og + s.length, none⟩) hg).trans hc
      have hxl := (sm_limbs a).get hx
      have HX := hid hx; clear hx hc
      by_cases hB' : s.length < m
      · obtain ⟨y, hy⟩ : ∃ y, (limbs b)[s.length]? = some y := ⟨_, List.getElem?_eq_getElem (by rw [HB.out]; exact hB')⟩
        obtain ⟨g', og', rfl, hg', hd⟩ := K3.out _ y hy
        have hd' := (hB.out.cell (p := ⟨g', og' + s.length, none⟩) hg').trans hd
        have hyl := (sm_limbs b).get hy
        have HY := hid hy; clear hy hd
        rcases (show c = 0 ∨ c = 1 by omega) with rfl | rfl
        · obtain rfl : C = 0 := by omega
          clear hC
          have HN := hid (hP.out.next (by rw [HA.out]; exact .inl hA))
          rw [getD_of HX.out, getD_of HY.out] at HN
          go_wp2_with (at_builtin; refine wpList_append_own _ rfl _ _ 64 rfl w.heap.size 3 i0 (.int .i64 0) 1 8 Tryz.underlying64 hi hz0 hz1 hz2 rfl (by decide) _ s.length _ rfl (hO.out.alloc _) ⟨wr.heap.size, 0, none⟩ 1 1 [.int .i64 ((↑x + ↑y : Int) % 1000000000)] rfl rfl (cell_one_new wr (.int .i64 ((↑x + ↑y : Int) % 1000000000)) 3) (by simp [Value.oneCell']) (by unfold maxLen; omega) (by omega) (by have := hB.out.size; simp; omega) ?_; intro v' w3 hown3 hgrow3 _; have HO3 := hid hown3; have HG3 := hid hgrow3; clear hown3 hgrow3)
          have hz : ((↑x + ↑y : Int) % 1000000000) = (((x + 0 + y) % 1000000000 : Nat) : Int) := by omega
          rw [hz] at HO3
          obtain ⟨n1, n2⟩ := own_next hO.out hB.out HO3.out HG3.out
          have N1 := hid n1; have N2 := hid n2; clear n1 n2 hz HO3 HG3
          obtain ⟨a3, k3, rfl⟩ := owns_ex N1.out
          go_wp2_with fail
          go_roundw
          case rel => exact ⟨s ++ [(x + 0 + y) % 1000000000], (x + 0 + y) / 1000000000, _, by simp, rfl, by omega, HN.out.c1, by simp <;> omega, by simp <;> omega, HN, N1, N2⟩
          case measure => simp [intOf] <;> omega
        · obtain rfl : C = 1 := by omega
          clear hC
          have HN := hid (hP.out.next (by rw [HA.out]; exact .inl hA))
          rw [getD_of HX.out, getD_of HY.out] at HN
          go_wp2_with (at_builtin; refine wpList_append_own _ rfl _ _ 64 rfl w.heap.size 3 i0 (.int .i64 0) 1 8 Tryz.underlying64 hi hz0 hz1 hz2 rfl (by decide) _ s.length _ rfl (hO.out.alloc _) ⟨wr.heap.size, 0, none⟩ 1 1 [.int .i64 ((1 + ↑x + ↑y : Int) % 1000000000)] rfl rfl (cell_one_new wr (.int .i64 ((1 + ↑x + ↑y : Int) % 1000000000)) 3) (by simp [Value.oneCell']) (by unfold maxLen; omega) (by omega) (by have := hB.out.size; simp; omega) ?_; intro v' w3 hown3 hgrow3 _; have HO3 := hid hown3; have HG3 := hid hgrow3; clear hown3 hgrow3)
          have hz : ((1 + ↑x + ↑y : Int) % 1000000000) = (((x + 1 + y) % 1000000000 : Nat) : Int) := by omega
          rw [hz] at HO3
          obtain ⟨n1, n2⟩ := own_next hO.out hB.out HO3.out HG3.out
          have N1 := hid n1; have N2 := hid n2; clear n1 n2 hz HO3 HG3
          obtain ⟨a3, k3, rfl⟩ := owns_ex N1.out
          go_wp2_with fail
          go_roundw
          case rel => exact ⟨s ++ [(x + 1 + y) % 1000000000], (x + 1 + y) / 1000000000, _, by simp, rfl, by omega, HN.out.c1, by simp <;> omega, by simp <;> omega, HN, N1, N2⟩
          case measure => simp [intOf] <;> omega
      · skip
        rcases (show c = 0 ∨ c = 1 by omega) with rfl | rfl
        · obtain rfl : C = 0 := by omega
          clear hC
          have HN := hid (hP.out.next (by rw [HA.out]; exact .inl hA))
          rw [getD_of HX.out, getD_none (by rw [HB.out]; omega)] at HN
          go_wp2_with (at_builtin; refine wpList_append_own _ rfl _ _ 64 rfl w.heap.size 3 i0 (.int .i64 0) 1 8 Tryz.underlying64 hi hz0 hz1 hz2 rfl (by decide) _ s.length _ rfl (hO.out.alloc _) ⟨wr.heap.size, 0, none⟩ 1 1 [.int .i64 ((↑x : Int) % 1000000000)] rfl rfl (cell_one_new wr (.int .i64 ((↑x : Int) % 1000000000)) 3) (by simp [Value.oneCell']) (by unfold maxLen; omega) (by omega) (by have := hB.out.size; simp; omega) ?_; intro v' w3 hown3 hgrow3 _; have HO3 := hid hown3; have HG3 := hid hgrow3; clear hown3 hgrow3)
          have hz : ((↑x : Int) % 1000000000) = (((x + 0 + 0) % 1000000000 : Nat) : Int) := by omega
          rw [hz] at HO3
          obtain ⟨n1, n2⟩ := own_next hO.out hB.out HO3.out HG3.out
          have N1 := hid n1; have N2 := hid n2; clear n1 n2 hz HO3 HG3
          obtain ⟨a3, k3, rfl⟩ := owns_ex N1.out
          go_wp2_with fail
          go_roundw
          case rel => exact ⟨s ++ [(x + 0 + 0) % 1000000000], (x + 0 + 0) / 1000000000, _, by simp, rfl, by omega, HN.out.c1, by simp <;> omega, by simp <;> omega, HN, N1, N2⟩
          case measure => simp [intOf] <;> omega
        · obtain rfl : C = 1 := by omega
          clear hC
          have HN := hid (hP.out.next (by rw [HA.out]; exact .inl hA))
          rw [getD_of HX.out, getD_none (by rw [HB.out]; omega)] at HN
          go_wp2_with (at_builtin; refine wpList_append_own _ rfl _ _ 64 rfl w.heap.size 3 i0 (.int .i64 0) 1 8 Tryz.underlying64 hi hz0 hz1 hz2 rfl (by decide) _ s.length _ rfl (hO.out.alloc _) ⟨wr.heap.size, 0, none⟩ 1 1 [.int .i64 ((1 + ↑x : Int) % 1000000000)] rfl rfl (cell_one_new wr (.int .i64 ((1 + ↑x : Int) % 1000000000)) 3) (by simp [Value.oneCell']) (by unfold maxLen; omega) (by omega) (by have := hB.out.size; simp; omega) ?_; intro v' w3 hown3 hgrow3 _; have HO3 := hid hown3; have HG3 := hid hgrow3; clear hown3 hgrow3)
          have hz : ((1 + ↑x : Int) % 1000000000) = (((x + 1 + 0) % 1000000000 : Nat) : Int) := by omega
          rw [hz] at HO3
          obtain ⟨n1, n2⟩ := own_next hO.out hB.out HO3.out HG3.out
          have N1 := hid n1; have N2 := hid n2; clear n1 n2 hz HO3 HG3
          obtain ⟨a3, k3, rfl⟩ := owns_ex N1.out
          go_wp2_with fail
          go_roundw
          case rel => exact ⟨s ++ [(x + 1 + 0) % 1000000000], (x + 1 + 0) / 1000000000, _, by simp, rfl, by omega, HN.out.c1, by simp <;> omega, by simp <;> omega, HN, N1, N2⟩
          case measure => simp [intOf] <;> omega
    · skip
      by_cases hB' : s.length < m
      · obtain ⟨y, hy⟩ : ∃ y, (limbs b)[s.length]? = some y := ⟨_, List.getElem?_eq_getElem (by rw [HB.out]; exact hB')⟩
        obtain ⟨g', og', rfl, hg', hd⟩ := K3.out _ y hy
        have hd' := (hB.out.cell (p := ⟨g', og' + s.length, none⟩) hg').trans hd
        have hyl := (sm_limbs b).get hy
        have HY := hid hy; clear hy hd
        rcases (show c = 0 ∨ c = 1 by omega) with rfl | rfl
        · obtain rfl : C = 0 := by omega
          clear hC
          have HN := hid (hP.out.next (by rw [HB.out]; exact .inr (.inl hB')))
          rw [getD_none (by rw [HA.out]; omega), getD_of HY.out] at HN
          go_wp2_with (at_builtin; refine wpList_append_own _ rfl _ _ 64 rfl w.heap.size 3 i0 (.int .i64 0) 1 8 Tryz.underlying64 hi hz0 hz1 hz2 rfl (by decide) _ s.length _ rfl (hO.out.alloc _) ⟨wr.heap.size, 0, none⟩ 1 1 [.int .i64 ((↑y : Int) % 1000000000)] rfl rfl (cell_one_new wr (.int .i64 ((↑y : Int) % 1000000000)) 3) (by simp [Value.oneCell']) (by unfold maxLen; omega) (by omega) (by have := hB.out.size; simp; omega) ?_; intro v' w3 hown3 hgrow3 _; have HO3 := hid hown3; have HG3 := hid hgrow3; clear hown3 hgrow3)
          have hz : ((↑y : Int) % 1000000000) = (((0 + 0 + y) % 1000000000 : Nat) : Int) := by omega
          rw [hz] at HO3
          obtain ⟨n1, n2⟩ := own_next hO.out hB.out HO3.out HG3.out
          have N1 := hid n1; have N2 := hid n2; clear n1 n2 hz HO3 HG3
          obtain ⟨a3, k3, rfl⟩ := owns_ex N1.out
          go_wp2_with fail
          go_roundw
          case rel => exact ⟨s ++ [(0 + 0 + y) % 1000000000], (0 + 0 + y) / 1000000000, _, by simp, rfl, by omega, HN.out.c1, by simp <;> omega, by simp <;> omega, HN, N1, N2⟩
          case measure => simp [intOf] <;> omega
        · obtain rfl : C = 1 := by omega
          clear hC
          have HN := hid (hP.out.next (by rw [HB.out]; exact .inr (.inl hB')))
          rw [getD_none (by rw [HA.out]; omega), getD_of HY.out] at HN
          go_wp2_with (at_builtin; refine wpList_append_own _ rfl _ _ 64 rfl w.heap.size 3 i0 (.int .i64 0) 1 8 Tryz.underlying64 hi hz0 hz1 hz2 rfl (by decide) _ s.length _ rfl (hO.out.alloc _) ⟨wr.heap.size, 0, none⟩ 1 1 [.int .i64 ((1 + ↑y : Int) % 1000000000)] rfl rfl (cell_one_new wr (.int .i64 ((1 + ↑y : Int) % 1000000000)) 3) (by simp [Value.oneCell']) (by unfold maxLen; omega) (by omega) (by have := hB.out.size; simp; omega) ?_; intro v' w3 hown3 hgrow3 _; have HO3 := hid hown3; have HG3 := hid hgrow3; clear hown3 hgrow3)
          have hz : ((1 + ↑y : Int) % 1000000000) = (((0 + 1 + y) % 1000000000 : Nat) : Int) := by omega
          rw [hz] at HO3
          obtain ⟨n1, n2⟩ := own_next hO.out hB.out HO3.out HG3.out
          have N1 := hid n1; have N2 := hid n2; clear n1 n2 hz HO3 HG3
          obtain ⟨a3, k3, rfl⟩ := owns_ex N1.out
          go_wp2_with fail
          go_roundw
          case rel => exact ⟨s ++ [(0 + 1 + y) % 1000000000], (0 + 1 + y) / 1000000000, _, by simp, rfl, by omega, HN.out.c1, by simp <;> omega, by simp <;> omega, HN, N1, N2⟩
          case measure => simp [intOf] <;> omega
      · skip
        rcases (show c = 0 ∨ c = 1 by omega) with rfl | rfl
        · obtain rfl : C = 0 := by omega
          clear hC
          have hs := hid (hP.out.done (by rw [HA.out]; exact hA) (by rw [HB.out]; exact hB') rfl)
          go_wp2_with fail
          go_ret
          exact ⟨⟨_, rfl, owns_isN hO.out hs.out⟩, hB.out⟩
        · obtain rfl : C = 1 := by omega
          clear hC
          have HN := hid (hP.out.next (by exact .inr (.inr (by omega))))
          rw [getD_none (by rw [HA.out]; omega), getD_none (by rw [HB.out]; omega)] at HN
          go_wp2_with (at_builtin; refine wpList_append_own _ rfl _ _ 64 rfl w.heap.size 3 i0 (.int .i64 0) 1 8 Tryz.underlying64 hi hz0 hz1 hz2 rfl (by decide) _ s.length _ rfl (hO.out.alloc _) ⟨wr.heap.size, 0, none⟩ 1 1 [.int .i64 (1)] rfl rfl (cell_one_new wr (.int .i64 (1)) 3) (by simp [Value.oneCell']) (by unfold maxLen; omega) (by omega) (by have := hB.out.size; simp; omega) ?_; intro v' w3 hown3 hgrow3 _; have HO3 := hid hown3; have HG3 := hid hgrow3; clear hown3 hgrow3)
          have hz : (1) = (((0 + 1 + 0) % 1000000000 : Nat) : Int) := by omega
          rw [hz] at HO3
          obtain ⟨n1, n2⟩ := own_next hO.out hB.out HO3.out HG3.out
          have N1 := hid n1; have N2 := hid n2; clear n1 n2 hz HO3 HG3
          obtain ⟨a3, k3, rfl⟩ := owns_ex N1.out
          go_wp2_with fail
          go_roundw
          case rel => exact ⟨s ++ [(0 + 1 + 0) % 1000000000], (0 + 1 + 0) / 1000000000, _, by simp, rfl, by omega, HN.out.c1, by simp <;> omega, by simp <;> omega, HN, N1, N2⟩
          case measure => simp [intOf] <;> omega
end Go.Proofs.YtpehhgkghgbhiaaGreatDoor
