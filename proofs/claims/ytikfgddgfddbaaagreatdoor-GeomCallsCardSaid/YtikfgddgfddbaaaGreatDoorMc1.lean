/- Walks: the reference's FromInt. -/
import Derived.Test.YtikfgddgfddbaaaGreatDoorMs10
import Derived.Laws.Concat
import Derived.Deep.DeepCutAuto
import Derived.Deep.RegionHeld3
namespace Go.Proofs.YtikfgddgfddbaaaGreatDoor
open Go.RowKit
open Go.Lib (decDigits nDigits)
set_option linter.unusedVariables false

theorem conv_d0 (w : World) : (convert 21 9 (.int .i32 48)).run Tryz.prog w = .ok (.string ⟨#[48]⟩) w := by kernel_rfl
theorem conv_d1 (w : World) : (convert 21 9 (.int .i32 49)).run Tryz.prog w = .ok (.string ⟨#[49]⟩) w := by kernel_rfl
theorem conv_d2 (w : World) : (convert 21 9 (.int .i32 50)).run Tryz.prog w = .ok (.string ⟨#[50]⟩) w := by kernel_rfl
theorem conv_d3 (w : World) : (convert 21 9 (.int .i32 51)).run Tryz.prog w = .ok (.string ⟨#[51]⟩) w := by kernel_rfl
theorem conv_d4 (w : World) : (convert 21 9 (.int .i32 52)).run Tryz.prog w = .ok (.string ⟨#[52]⟩) w := by kernel_rfl
theorem conv_d5 (w : World) : (convert 21 9 (.int .i32 53)).run Tryz.prog w = .ok (.string ⟨#[53]⟩) w := by kernel_rfl
theorem conv_d6 (w : World) : (convert 21 9 (.int .i32 54)).run Tryz.prog w = .ok (.string ⟨#[54]⟩) w := by kernel_rfl
theorem conv_d7 (w : World) : (convert 21 9 (.int .i32 55)).run Tryz.prog w = .ok (.string ⟨#[55]⟩) w := by kernel_rfl
theorem conv_d8 (w : World) : (convert 21 9 (.int .i32 56)).run Tryz.prog w = .ok (.string ⟨#[56]⟩) w := by kernel_rfl
theorem conv_d9 (w : World) : (convert 21 9 (.int .i32 57)).run Tryz.prog w = .ok (.string ⟨#[57]⟩) w := by kernel_rfl

theorem conv_digit (d : Nat) (h : d < 10) (w : World) : (convert 21 9 (.int .i32 (((48 + d : Nat)) : Int))).run Tryz.prog w = .ok (.string ⟨[UInt8.ofNat (48 + d)].toArray⟩) w := by
  obtain rfl | rfl | rfl | rfl | rfl | rfl | rfl | rfl | rfl | rfl : d = 0 ∨ d = 1 ∨ d = 2 ∨ d = 3 ∨ d = 4 ∨ d = 5 ∨ d = 6 ∨ d = 7 ∨ d = 8 ∨ d = 9 := by omega
  · exact conv_d0 w
  · exact conv_d1 w
  · exact conv_d2 w
  · exact conv_d3 w
  · exact conv_d4 w
  · exact conv_d5 w
  · exact conv_d6 w
  · exact conv_d7 w
  · exact conv_d8 w
  · exact conv_d9 w

theorem r1_FromInt_neg (w : World) (n : Int) (h : n < 0) : Calls Tryz.prog 223 #[.int .i64 n] w fun e w' => e = .returned (.tuple #[.string ⟨#[]⟩, .int .i64 2]) ∧ w = w' := by
  have q0 : decide (n < 0) = true := by simpa using h
  go_enter Tryz.func223, Tryz.ntmps223
  go_wp2_with fail
  go_ret2
  exact ⟨rfl, rfl⟩

set_option maxHeartbeats 1000000 in
theorem r1_FromInt (w : World) (n : Nat) (h : n ≤ 9223372036854775807) : Calls Tryz.prog 223 #[.int .i64 n] w fun e w' => e = .returned (.tuple #[numV n, .int .i64 0]) ∧ w = w' := by
  have hd20 := hid (show nDigits n ≤ 19 from nDigits_le (by omega) (by omega))
  go_enter Tryz.func223, Tryz.ntmps223
  go_wp2_with fail
  go_loop [0, 4] (fun nn ss => ∃ (m : Nat) (l : List UInt8), nn = .int .i64 m ∧ m ≤ 9223372036854775807 ∧ ss = .string ⟨l.toArray⟩ ∧ l.length ≤ 19 ∧ Hid (decDigits n = decDigits m ++ l)) (fun nn _ => (intOf nn).toNat)
  case atStart => exact ⟨n, [], rfl, h, rfl, by simp, by simp [Hid]⟩
  case round =>
    obtain ⟨m, l, rfl, hm, rfl, hl, hd⟩ := hrel
    have hc := conv_digit (m % 10) (by omega)
    have hz : (((48 + m % 10 : Nat)) : Int) = 48 + (m : Int) % 10 := by omega
    rw [hz] at hc
    by_cases h9 : 9 < m
    · have q1 : decide ((9 : Int) < (m : Int)) = true := by simp; omega
      have hdm := hid (decDigits_big (u := m) (by omega))
      have hl19 : l.length + 1 ≤ 19 := by
        have h1 := congrArg List.length hd.out
        rw [List.length_append, Go.Lib.decDigits_length] at h1
        have h2 := hd20.out
        have h3 := dec_length_pos m
        omega
      clear hz
      go_wp2_with fail
      go_round
      case rel => exact ⟨m / 10, UInt8.ofNat (48 + m % 10) :: l, by go_num, by omega, by simp [Go.ByteArray.mk_append_mk], by simpa using hl19, by rw [Hid, hd.out, hdm.out]; simp⟩
      case measure => simp [intOf] <;> omega
    · have q1 : decide ((9 : Int) < (m : Int)) = false := by simp; omega
      have hm9 : m < 10 := by omega
      have hdm := hid (decDigits_small hm9)
      have hmm : m % 10 = m := Nat.mod_eq_of_lt hm9
      rw [hmm] at hc
      have hmI : (48 + (m : Int) % 10) = 48 + (m : Int) := by omega
      rw [hmI] at hc
      clear hz hmm hmI h9
      go_wp2_with fail
      go_ret2
      refine ⟨ret_pair ?_ rfl, rfl⟩
      rw [numV, hd.out, hdm.out]
      simp [Go.ByteArray.mk_append_mk]
end Go.Proofs.YtikfgddgfddbaaaGreatDoor

/- Walks: the reference's Int (small), small, Value, Two; the check of bits. -/
namespace Go.Proofs.YtikfgddgfddbaaaGreatDoor
open Go.RowKit
open Go.Lib (decDigits nDigits)
set_option linter.unusedVariables false
set_option linter.unusedSimpArgs false

theorem r2_Int (w : World) (n : Nat) (h : n ≤ 9223372036854775807) : Calls Tryz.prog 208 #[.int .i64 n] w fun e w' => e = .returned (.string (numB n)) ∧ w = w' := by
  have q0 : decide ((0 : Int) ≤ (n : Int)) = true := by simp
  go_enter Tryz.func208, Tryz.ntmps208
  go_wp2_with fail
  refine (r1_FromInt _ n h).mono ?_; rintro e w1 ⟨rfl, rfl⟩
  rw [numV_eq]
  go_wp2_with fail
  go_ret
  exact ⟨rfl, rfl⟩

theorem r3_small (w : World) (n : Nat) (h : n ≤ 9223372036854775807) : Calls Tryz.prog 183 #[.int .i64 n] w fun e w' => RetN .i64 n e w' ∧ Below w.heap.size w w' := by
  have hd := hid (show nDigits n ≤ 9000 from Nat.le_trans (nDigits_le (k := 19) (by omega) (by omega)) (by omega))
  go_enter Tryz.func183, Tryz.ntmps183
  go_wp2_with fail
  refine (r2_Int _ n h).mono ?_; rintro e w1 ⟨rfl, rfl⟩
  go_wp2_with fail
  refine (r1_Read_num _ n hd.out).mono ?_; rintro e w1 ⟨⟨v, rfl, hv⟩, hb⟩
  go_wp2_with fail
  go_ret
  exact ⟨⟨_, rfl, hv⟩, hb⟩

theorem limbs_two {n k : Nat} (h : n < 2 ^ k) : (limbs n).length ≤ k :=
  limbs_length_le.2 (Nat.lt_of_lt_of_le h (Nat.pow_le_pow_left (by omega) k))

/-- The number of a bit string. -/
def bv (l : List UInt8) : Nat := l.foldl (fun a b => a + a + (if b = 49 then 1 else 0)) 0
theorem bv_snoc (l : List UInt8) (b : UInt8) : bv (l ++ [b]) = bv l + bv l + (if b = 49 then 1 else 0) := by simp [bv]
theorem bv_take {l : List UInt8} {i : Nat} {b : UInt8} (h : l[i]? = some b) : bv (l.take (i + 1)) = bv (l.take i) + bv (l.take i) + (if b = 49 then 1 else 0) := by
  rw [List.take_add_one, h]
  exact bv_snoc _ _
theorem bv_lt {l : List UInt8} : ∀ (i : Nat), i ≤ l.length → bv (l.take i) < 2 ^ i
  | 0, _ => by simp [bv]
  | i + 1, h => by
    have ih := bv_lt (l := l) i (by omega)
    rw [bv_take (l := l) (i := i) (b := l[i]) (List.getElem?_eq_getElem (by omega)), Nat.pow_succ]
    split <;> omega

set_option maxRecDepth 100000 in
set_option maxHeartbeats 1000000 in
theorem r3_Value (w : World) (s : ByteArray) (hs : s.size ≤ 100000) : Calls Tryz.prog 154 #[.string s] w fun e w' => RetN .i64 (bv s.data.toList) e w' ∧ Below w.heap.size w w' := by
  have hsl := hid (show s.data.toList.length = s.size from by simp)
  go_enter Tryz.func154, Tryz.ntmps154
  go_wp2_with fail
  refine (r3_small _ 0 (by omega)).mono ?_; rintro e w1 ⟨⟨v, rfl, hv⟩, hb⟩
  have V := hid hv; have B := hid hb
  clear hv hb
  go_wp2_with fail
  go_loopw [3, 4] (fun o ii wr => ∃ i : Nat, ii = .int .i64 i ∧ i ≤ s.size ∧ Hid (IsN .i64 wr o (bv (s.data.toList.take i))) ∧ Hid (Below w.heap.size w wr)) (fun o ii wr => s.size - (intOf ii).toNat)
  case atStart => exact ⟨0, rfl, Nat.zero_le _, V, B⟩
  case round =>
    obtain ⟨i, rfl, hi, hO, hB⟩ := hrel
    by_cases hlt : i < s.size
    · have hget := byte_get hlt
      have hl := bv_lt (l := s.data.toList) i (by rw [hsl.out]; exact hi)
      have hl2 := bv_lt (l := s.data.toList) (i + 1) (by rw [hsl.out]; exact hlt)
      have hbt := hid (bv_take hget)
      have ll : Hid ((limbs (bv (s.data.toList.take i))).length ≤ 1000000) := Nat.le_trans (limbs_two hl) (by omega)
      have ll2 : Hid ((limbs (bv (s.data.toList.take i) + bv (s.data.toList.take i))).length ≤ 1000000) := by
        refine Nat.le_trans (limbs_two (k := i + 1) ?_) (by omega)
        rw [Nat.pow_succ]; omega
      have l1 : Hid ((limbs 1).length ≤ 1000000) := by show _ ≤ _; rw [limbs_one]; decide
      by_cases hb : s[i] = 49
      · have q1 : ((s[i].toNat : Int) == 49) = true := by rw [hb]; rfl
        rw [if_pos hb] at hbt
        clear hget hl hl2 hb
        go_wp2_with fail
        refine (r1_Plus _ _ _ _ _ hO.out hO.out ll.out ll.out).mono ?_; rintro e w2 ⟨⟨v2, rfl, hv2⟩, hb2⟩
        have V2 := hid hv2; have B2 := hid (bnext hB.out hb2)
        clear hv2 hb2
        go_wp2_with fail
        refine (r3_small _ 1 (by omega)).mono ?_; rintro e w3 ⟨⟨v3, rfl, hv3⟩, hb3⟩
        have V3 := hid hv3; have B3 := hid (bnext B2.out hb3); have V2' := hid (V2.out.call hb3)
        clear hv3 hb3 V2
        go_wp2_with fail
        refine (r1_Plus _ _ _ _ _ V2'.out V3.out ll2.out l1.out).mono ?_; rintro e w4 ⟨⟨v4, rfl, hv4⟩, hb4⟩
        have V4 := hid hv4; have B4 := hid (bnext B3.out hb4)
        clear hv4 hb4
        go_wp2_with fail
        go_roundw
        case rel => exact ⟨i + 1, by go_num, by omega, V4.out.cast hbt.out.symm, B4⟩
        case measure => simp [intOf] <;> omega
      · have q1 : ((s[i].toNat : Int) == 49) = false := by
          rw [beq_eq_false_iff_ne]
          intro e
          refine hb ?_
          have : s[i].toNat = (49 : UInt8).toNat := by simp; omega
          exact UInt8.toNat_inj.1 this
        rw [if_neg hb] at hbt
        clear hget hl hl2 hb
        go_wp2_with fail
        refine (r1_Plus _ _ _ _ _ hO.out hO.out ll.out ll.out).mono ?_; rintro e w2 ⟨⟨v2, rfl, hv2⟩, hb2⟩
        have V2 := hid hv2; have B2 := hid (bnext hB.out hb2)
        clear hv2 hb2
        go_wp2_with fail
        go_roundw
        case rel => exact ⟨i + 1, by go_num, by omega, V2.out.cast hbt.out.symm, B2⟩
        case measure => simp [intOf] <;> omega
    · obtain rfl : i = s.size := by omega
      go_wp2_with fail
      go_ret
      refine ⟨⟨_, rfl, hO.out.cast ?_⟩, hB.out⟩
      rw [← hsl.out, List.take_length]

set_option maxRecDepth 100000 in
set_option maxHeartbeats 1000000 in
theorem r3_Two (w : World) (n : Nat) (hn : n ≤ 100000) : Calls Tryz.prog 155 #[.int .i64 n] w fun e w' => RetN .i64 (2 ^ n) e w' ∧ Below w.heap.size w w' := by
  go_enter Tryz.func155, Tryz.ntmps155
  go_wp2_with fail
  refine (r3_small _ 1 (by omega)).mono ?_; rintro e w1 ⟨⟨v, rfl, hv⟩, hb⟩
  have V := hid hv; have B := hid hb
  clear hv hb
  go_wp2_with fail
  go_loopw [0, 3] (fun nn o wr => ∃ j : Nat, nn = .int .i64 j ∧ j ≤ n ∧ Hid (IsN .i64 wr o (2 ^ (n - j))) ∧ Hid (Below w.heap.size w wr)) (fun nn o wr => (intOf nn).toNat)
  case atStart => exact ⟨n, rfl, Nat.le_refl _, by rw [Nat.sub_self, Nat.pow_zero]; exact V, B⟩
  case round =>
    obtain ⟨j, rfl, hj, hO, hB⟩ := hrel
    by_cases h0 : 0 < j
    · have q0 : decide ((0 : Int) < (j : Int)) = true := by simp; omega
      have ll : Hid ((limbs (2 ^ (n - j))).length ≤ 1000000) := Nat.le_trans (limbs_two (k := n - j + 1) (Nat.pow_lt_pow_right (by omega) (by omega))) (by omega)
      have hs : Hid (2 ^ (n - j) + 2 ^ (n - j) = 2 ^ (n - (j - 1))) := by
        show _ = _
        rw [show n - (j - 1) = n - j + 1 by omega, Nat.pow_succ]; omega
      go_wp2_with fail
      refine (r1_Plus _ _ _ _ _ hO.out hO.out ll.out ll.out).mono ?_; rintro e w2 ⟨⟨v2, rfl, hv2⟩, hb2⟩
      have V2 := hid hv2; have B2 := hid (bnext hB.out hb2)
      clear hv2 hb2
      go_wp2_with fail
      go_roundw
      case rel => exact ⟨j - 1, by go_num, by omega, V2.out.cast hs.out, B2⟩
      case measure => simp [intOf] <;> omega
    · obtain rfl : j = 0 := by omega
      go_wp2_with fail
      go_ret
      exact ⟨⟨_, rfl, hO.out⟩, hB.out⟩

set_option maxRecDepth 100000 in
set_option maxHeartbeats 1000000 in
theorem r3_Check (w : World) (s : ByteArray) (hs : s.size ≤ 9223372036854775807) : Calls Tryz.prog 101 #[.string s] w fun e w' => e = .returned (.int .i64 (bitE s)) ∧ w = w' := by
  have hsl := hid (show s.data.toList.length = s.size from by simp)
  go_enter Tryz.func101, Tryz.ntmps101
  go_wp2_with fail
  go_loop [3] (fun ii => ∃ i : Nat, ii = .int .i64 i ∧ i ≤ s.size ∧ Hid (∀ (j : Nat) (b : UInt8), j < i → s.data.toList[j]? = some b → b = 48 ∨ b = 49)) (fun ii => s.size - (intOf ii).toNat)
  case atStart => exact ⟨0, rfl, Nat.zero_le _, fun j b hj => absurd hj (by omega)⟩
  case round =>
    obtain ⟨i, rfl, hi, hI⟩ := hrel
    by_cases hlt : i < s.size
    · have hb := hid (byte_get hlt)
      have ne : ∀ k : UInt8, s[i] ≠ k → ((s[i].toNat : Int) != (k.toNat : Int)) = true := fun k h => by
        rw [bne_iff_ne]
        intro e
        exact h (UInt8.toNat_inj.1 (by omega))
      by_cases c1 : s[i] = 48
      · have q1 : ((s[i].toNat : Int) != 48) = false := by rw [c1]; rfl
        have hB := hid c1
        clear c1 ne
        go_wp2_with fail
        go_round
        case rel => exact ⟨i + 1, by go_num, by omega, fun j b hj hjb => by
          by_cases e : j = i
          · subst e; rw [hb.out] at hjb; cases hjb; exact .inl hB.out
          · exact hI.out j b (by omega) hjb⟩
        case measure => simp [intOf] <;> omega
      · have q1 : ((s[i].toNat : Int) != 48) = true := ne 48 c1
        by_cases c2 : s[i] = 49
        · have q2 : ((s[i].toNat : Int) != 49) = false := by rw [c2]; rfl
          have hB := hid c2
          clear c1 c2 ne
          go_wp2_with fail
          go_round
          case rel => exact ⟨i + 1, by go_num, by omega, fun j b hj hjb => by
            by_cases e : j = i
            · subst e; rw [hb.out] at hjb; cases hjb; exact .inr hB.out
            · exact hI.out j b (by omega) hjb⟩
          case measure => simp [intOf] <;> omega
        · have q2 : ((s[i].toNat : Int) != 49) = true := ne 49 c2
          have hB := hid (And.intro c1 c2)
          clear c1 c2 ne
          go_wp2_with fail
          go_ret
          refine ⟨ret_int ?_, rfl⟩
          have : bitB s = false := by
            unfold bitB
            rw [Bool.eq_false_iff]
            intro h
            rw [List.all_eq_true] at h
            have := h _ (List.mem_of_getElem? hb.out)
            simp [hB.out.1, hB.out.2] at this
          unfold bitE
          rw [this]
          rfl
    · have e1 : i = s.size := by omega
      subst e1
      go_wp2_with fail
      go_ret
      refine ⟨ret_int ?_, rfl⟩
      have : bitB s = true := by
        unfold bitB
        rw [List.all_eq_true]
        intro b hb
        obtain ⟨j, hj, rfl⟩ := List.getElem_of_mem hb
        have := hI.out j _ (by rw [← hsl.out]; exact hj) (List.getElem?_eq_getElem hj)
        simpa using this
      unfold bitE
      rw [this]
      rfl
end Go.Proofs.YtikfgddgfddbaaaGreatDoor

/- Walks: the reference's Check, Short, Bits, Ratio, both. -/
namespace Go.Proofs.YtikfgddgfddbaaaGreatDoor
open Go.RowKit
open Go.Lib (decDigits nDigits)
set_option linter.unusedVariables false
set_option linter.unusedSimpArgs false

set_option maxRecDepth 100000 in
set_option maxHeartbeats 1000000 in
theorem r2_Check (w : World) (s : ByteArray) (hs : s.size ≤ 1000000) : Calls Tryz.prog 99 #[.string s] w fun e w' => e = .returned (.int .i64 (qE s)) ∧ Below w.heap.size w w' := by
  have R1 := fun V => hid (r2_Read V s hs)
  clear hs
  go_enter Tryz.func99, Tryz.ntmps99
  go_wp2_with fail
  refine (R1 _).out.mono ?_; rintro e w1 ⟨hr1, hb1⟩
  obtain ⟨m, a, n, c, a', n', c', rfl, h1, h2⟩ := hr1.open
  obtain ⟨x, hx⟩ : ∃ x, qE s = x := ⟨_, rfl⟩
  have HX := hid hx
  rw [hx]
  have y2 := hid (hb1.alloc hb1.size (.cells #[.bool m, .slice a n c, .slice a' n' c'] 51))
  clear h1 h2 hr1 hb1 hx R1
  go_wp2_with fail
  go_ret
  exact ⟨by rw [HX.out]; rfl, y2.out⟩

theorem IsQ.parts {k : IntKind} {w : World} {m : Bool} {N D : Value} {q : Rat} (h : IsQ k w (.agg #[.bool m, N, D]) q) : IsN k w N q.num.natAbs ∧ IsN k w D q.den := by
  obtain ⟨N', D', e, h1, h2⟩ := h.ex
  simp at e
  obtain ⟨-, rfl, rfl⟩ := e
  exact ⟨h1, h2⟩
theorem IsQ.sign {k : IntKind} {w : World} {m : Bool} {N D : Value} {q : Rat} (h : IsQ k w (.agg #[.bool m, N, D]) q) : m = decide (q.num < 0) := by
  obtain ⟨N', D', e, h1, h2⟩ := h.ex
  simp at e
  simpa using e.1

/-- The error of long parts. -/
def shE (n d : Nat) : Int := if 1000 < nDigits n ∨ 1000 < nDigits d then 5 else 0

set_option maxRecDepth 100000 in
set_option maxHeartbeats 1000000 in
theorem r4_Short (w : World) (s : ByteArray) (hs : s.size ≤ 1000000) (hq : qE s = 0) : Calls Tryz.prog 100 #[.string s] w fun e w' => e = .returned (.int .i64 (shE (vQ s).num.natAbs (vQ s).den)) ∧ Below w.heap.size w w' := by
  have R1 := fun V => hid (r2_Read V s hs)
  have dl := hid ((dig_of_fits (vQ_fits hq)).limbs (L := 1000000) (by omega) (by omega))
  obtain ⟨n, hn⟩ : ∃ n, (vQ s).num.natAbs = n := ⟨_, rfl⟩
  obtain ⟨d, hd⟩ : ∃ d, (vQ s).den = d := ⟨_, rfl⟩
  have HQ := hid hq
  rw [hn, hd] at dl
  rw [hn, hd]
  have HN := hid hn; have HD := hid hd
  have sz := hid (numB_size n); have sz2 := hid (numB_size d)
  clear hs hn hd
  obtain ⟨B1, hB1⟩ : ∃ B, numB n = B := ⟨_, rfl⟩
  obtain ⟨B2, hB2⟩ : ∃ B, numB d = B := ⟨_, rfl⟩
  rw [hB1] at sz
  rw [hB2] at sz2
  have E1 := hid hB1; have E2 := hid hB2
  clear hB1 hB2 hq
  have key : (1000 < B1.size ∧ shE n d = 5) ∨ (¬ 1000 < B1.size ∧ 1000 < B2.size ∧ shE n d = 5) ∨ (¬ 1000 < B1.size ∧ ¬ 1000 < B2.size ∧ shE n d = 0) := by
    rw [sz.out, sz2.out]
    unfold shE
    by_cases h1 : 1000 < nDigits n
    · exact .inl ⟨h1, if_pos (.inl h1)⟩
    · by_cases h2 : 1000 < nDigits d
      · exact .inr (.inl ⟨h1, h2, if_pos (.inr h2)⟩)
      · exact .inr (.inr ⟨h1, h2, if_neg (fun h => h.elim h1 h2)⟩)
  rcases key with ⟨k1, k2⟩ | ⟨k1, k2, k3⟩ | ⟨k1, k2, k3⟩
  · have q0 : decide ((1000 : Int) < (B1.size : Int)) = true := by simp; omega
    rw [k2]
    clear k1 k2
    go_enter Tryz.func100, Tryz.ntmps100
    go_wp2_with fail
    refine (R1 _).out.mono ?_; rintro e w1 ⟨hr1, hb1⟩
    obtain ⟨m, a, k, c, a', k', c', rfl, h1, h2⟩ := hr1.open
    have q := h1 HQ.out
    rw [HQ.out]
    obtain ⟨hN, hD⟩ := q.parts
    rw [HN.out] at hN
    rw [HD.out] at hD
    have b2 := hid ((Below.refl w1.heap.size w1).alloc (Nat.le_refl _) (.cells #[.bool m, .slice a k c, .slice a' k' c'] 51))
    have X2 := hid (Blk.new w1 #[.bool m, .slice a k c, .slice a' k' c'] 51)
    have N2 := hid (hN.call b2.out); have D2 := hid (hD.call b2.out)
    have y2 := hid (bnext hb1 b2.out)
    have g1 := X2.out.cell 1
    have g2 := X2.out.cell 2
    simp at g1 g2
    clear h1 h2 hr1 hb1 q hN hD b2
    clear g2 R1
    go_wp2_with fail
    refine (r1_Write _ _ _ N2.out dl.out.1).mono ?_; rintro e w3 ⟨rfl, hb3⟩
    rw [numV_eq, E1.out]
    have y3 := hid (bnext y2.out hb3)
    clear hb3
    go_wp2_with fail
    go_ret
    exact ⟨rfl, y3.out⟩
  · have q0 : decide ((1000 : Int) < (B1.size : Int)) = false := by simp; omega
    have q1 : decide ((1000 : Int) < (B2.size : Int)) = true := by simp; omega
    rw [k3]
    clear k1 k2 k3
    go_enter Tryz.func100, Tryz.ntmps100
    go_wp2_with fail
    refine (R1 _).out.mono ?_; rintro e w1 ⟨hr1, hb1⟩
    obtain ⟨m, a, k, c, a', k', c', rfl, h1, h2⟩ := hr1.open
    have q := h1 HQ.out
    rw [HQ.out]
    obtain ⟨hN, hD⟩ := q.parts
    rw [HN.out] at hN
    rw [HD.out] at hD
    have b2 := hid ((Below.refl w1.heap.size w1).alloc (Nat.le_refl _) (.cells #[.bool m, .slice a k c, .slice a' k' c'] 51))
    have X2 := hid (Blk.new w1 #[.bool m, .slice a k c, .slice a' k' c'] 51)
    have N2 := hid (hN.call b2.out); have D2 := hid (hD.call b2.out)
    have y2 := hid (bnext hb1 b2.out)
    have g1 := X2.out.cell 1
    have g2 := X2.out.cell 2
    simp at g1 g2
    clear h1 h2 hr1 hb1 q hN hD b2
    clear R1
    go_wp2_with fail
    refine (r1_Write _ _ _ N2.out dl.out.1).mono ?_; rintro e w3 ⟨rfl, hb3⟩
    rw [numV_eq, E1.out]
    have y3 := hid (bnext y2.out hb3)
    have D3 := hid (D2.out.call hb3)
    have g3 := (X2.out.call hb3).cell 2
    simp at g3
    clear hb3 g1 g2
    go_wp2_with fail
    refine (r1_Write _ _ _ D3.out dl.out.2).mono ?_; rintro e w4 ⟨rfl, hb4⟩
    rw [numV_eq, E2.out]
    have y4 := hid (bnext y3.out hb4)
    clear hb4
    go_wp2_with fail
    go_ret
    exact ⟨rfl, y4.out⟩
  · have q0 : decide ((1000 : Int) < (B1.size : Int)) = false := by simp; omega
    have q1 : decide ((1000 : Int) < (B2.size : Int)) = false := by simp; omega
    rw [k3]
    clear k1 k2 k3
    go_enter Tryz.func100, Tryz.ntmps100
    go_wp2_with fail
    refine (R1 _).out.mono ?_; rintro e w1 ⟨hr1, hb1⟩
    obtain ⟨m, a, k, c, a', k', c', rfl, h1, h2⟩ := hr1.open
    have q := h1 HQ.out
    rw [HQ.out]
    obtain ⟨hN, hD⟩ := q.parts
    rw [HN.out] at hN
    rw [HD.out] at hD
    have b2 := hid ((Below.refl w1.heap.size w1).alloc (Nat.le_refl _) (.cells #[.bool m, .slice a k c, .slice a' k' c'] 51))
    have X2 := hid (Blk.new w1 #[.bool m, .slice a k c, .slice a' k' c'] 51)
    have N2 := hid (hN.call b2.out); have D2 := hid (hD.call b2.out)
    have y2 := hid (bnext hb1 b2.out)
    have g1 := X2.out.cell 1
    have g2 := X2.out.cell 2
    simp at g1 g2
    clear h1 h2 hr1 hb1 q hN hD b2
    clear R1
    go_wp2_with fail
    refine (r1_Write _ _ _ N2.out dl.out.1).mono ?_; rintro e w3 ⟨rfl, hb3⟩
    rw [numV_eq, E1.out]
    have y3 := hid (bnext y2.out hb3)
    have D3 := hid (D2.out.call hb3)
    have g3 := (X2.out.call hb3).cell 2
    simp at g3
    clear hb3 g1 g2
    go_wp2_with fail
    refine (r1_Write _ _ _ D3.out dl.out.2).mono ?_; rintro e w4 ⟨rfl, hb4⟩
    rw [numV_eq, E2.out]
    have y4 := hid (bnext y3.out hb4)
    clear hb4
    go_wp2_with fail
    go_ret
    exact ⟨rfl, y4.out⟩

theorem r4_Bits (w : World) (s : ByteArray) (hs : s.size ≤ 9223372036854775807) : Calls Tryz.prog 56 #[.string s] w fun e w' => e = .returned (.int .i64 (chkE s)) ∧ w = w' := by
  have R1 := fun V => hid (r3_Check V s hs)
  unfold chkE
  by_cases hb : bitB s = true
  · have e1 : bitE s = 0 := if_pos hb
    rw [e1] at R1
    rw [if_pos hb]
    by_cases hl : 256 < s.size
    · have q0 : decide ((256 : Int) < (s.size : Int)) = true := by simp; omega
      rw [if_pos hl]
      clear hb e1 hl hs
      go_enter Tryz.func56, Tryz.ntmps56
      go_wp2_with fail
      refine (R1 _).out.mono ?_; rintro e w1 ⟨rfl, rfl⟩
      go_wp2_with fail
      go_ret
      exact ⟨rfl, rfl⟩
    · have q0 : decide ((256 : Int) < (s.size : Int)) = false := by simp; omega
      rw [if_neg hl]
      clear hb e1 hl hs
      go_enter Tryz.func56, Tryz.ntmps56
      go_wp2_with fail
      refine (R1 _).out.mono ?_; rintro e w1 ⟨rfl, rfl⟩
      go_wp2_with fail
      go_ret
      exact ⟨rfl, rfl⟩
  · have e1 : bitE s = 3 := if_neg hb
    rw [e1] at R1
    rw [if_neg hb]
    clear hb e1 hs
    go_enter Tryz.func56, Tryz.ntmps56
    go_wp2_with fail
    refine (R1 _).out.mono ?_; rintro e w1 ⟨rfl, rfl⟩
    go_wp2_with fail
    go_ret
    exact ⟨rfl, rfl⟩

/-- The error of a ratio, by the number of its text. -/
theorem gPE_ref {s : ByteArray} (h : qE s = 0) : gPE s = if (vQ s).num < 0 then 2 else if (vQ s).den ≤ (vQ s).num.natAbs then 2 else shE (vQ s).num.natAbs (vQ s).den := by
  obtain ⟨e1, e2, e3⟩ := vQ_ok h
  obtain ⟨h1, h2, h3⟩ := qE_zero h
  have hn : iM (cW s) = true ↔ (vQ s).num < 0 := by rw [← e1]; simp
  have hW0 := iB_form (qB_whole h1)
  have hD := qB_below h1
  unfold gPE
  rw [if_neg (by rw [h]; simp)]
  by_cases hm : iM (cW s) = true
  · rw [if_pos (.inl hm), if_pos (hn.1 hm)]
  · have hm' : iM (cW s) = false := by simpa using hm
    rw [iD_plain hm'] at hW0 e2
    unfold qL at h2
    rw [iD_plain hm'] at h2
    simp only [Bool.or_eq_false_iff, decide_eq_false_iff_not] at h2
    have s1 : (cW s).data.toList.length = (cW s).size := Array.length_toList
    have s2 : (qD s).data.toList.length = (qD s).size := Array.length_toList
    have c1 : cmpN (cW s).data.toList (qD s).data.toList = ordN (vQ s).num.natAbs (vQ s).den := by
      rw [cmpN, if_pos ⟨errN_ok (formB_iff.1 hW0) (by omega), errN_ok (formB_iff.1 hD) (by omega)⟩, e2, e3]
      rfl
    have z1 : (cW s).size = nDigits (vQ s).num.natAbs := by rw [e2, ← numB_size, ← numB_of hW0]
    have z2 : (qD s).size = nDigits (vQ s).den := by rw [e3, ← numB_size, ← numB_of hD]
    rw [c1, z1, z2, if_neg (show ¬ (vQ s).num < 0 from fun h => hm (hn.2 h))]
    have ho : 0 ≤ ordN (vQ s).num.natAbs (vQ s).den ↔ (vQ s).den ≤ (vQ s).num.natAbs := by
      unfold ordN
      split
      · constructor <;> intro h <;> omega
      · split <;> constructor <;> intro h <;> omega
    unfold shE
    by_cases hle : (vQ s).den ≤ (vQ s).num.natAbs
    · rw [if_pos (.inr (ho.2 hle)), if_pos hle]
    · rw [if_neg (fun h => h.elim hm (fun h => hle (ho.1 h))), if_neg hle]
end Go.Proofs.YtikfgddgfddbaaaGreatDoor

/- Walks: the reference's sure, power. -/
namespace Go.Proofs.YtikfgddgfddbaaaGreatDoor
open Go.RowKit
open Go.Lib (decDigits nDigits)
set_option linter.unusedVariables false
set_option linter.unusedSimpArgs false

set_option maxRecDepth 100000 in
set_option maxHeartbeats 1000000 in
theorem r6_sure (w : World) : Calls Tryz.prog 71 #[] w fun e w' => RetQ .i64 1 e w' ∧ Below w.heap.size w w' := by
  have R1 := fun V => hid (r2_Read V ⟨#[49]⟩ (by decide))
  have HQ : Hid (qE ⟨#[49]⟩ = 0) := qE_t1
  have HV : Hid (vQ ⟨#[49]⟩ = 1) := vQ_t1
  have t0 := hid (Blk.new w #[.bool false, .slice none 0 0, .slice none 0 0] 51)
  have t1 := hid ((Below.refl w.heap.size w).alloc (Nat.le_refl _) (.cells #[.bool false, .slice none 0 0, .slice none 0 0] 51))
  go_enter Tryz.func71, Tryz.ntmps71
  go_wp2_with fail
  refine (R1 _).out.mono ?_; rintro e w1 ⟨hr1, hb1⟩
  obtain ⟨m, a, n, c, a', n', c', rfl, h1, h2⟩ := hr1.open
  have q := h1 HQ.out
  rw [HV.out] at q
  rw [HQ.out]
  have b2 := hid ((Below.refl w1.heap.size w1).alloc (Nat.le_refl _) (.cells #[.bool m, .slice a n c, .slice a' n' c'] 51))
  have x2 := hid ((t0.out.call hb1).call b2.out); have y2 := hid (bnext (bnext t1.out hb1) b2.out); have q2 := hid (q.call b2.out)
  have z2 := hid (Blk.new w1 #[.bool m, .slice a n c, .slice a' n' c'] 51)
  have d0 := x2.out.cell 0
  have d1 := x2.out.cell 1
  have d2 := x2.out.cell 2
  have e0 := x2.out.free 0
  have e1 := x2.out.free 1
  have e2 := x2.out.free 2
  have g0 := z2.out.cell 0
  have g1 := z2.out.cell 1
  have g2 := z2.out.cell 2
  simp at d0 d1 d2 g0 g1 g2
  clear h1 h2 hr1 hb1 q b2 R1 t0 t1
  go_wp2_with fail
  obtain ⟨s1, s2⟩ := set3 x2.out m a a' n c n' c'
  have f0 := s2.cell 0
  have f1 := s2.cell 1
  have f2 := s2.cell 2
  simp at f0 f1 f2
  refine bodyPost_ret (v := .agg #[.bool m, .slice a n c, .slice a' n' c']) (by simp [results, Tryz.results71, go_sem, f0, f1, f2]) rfl ⟨⟨_, rfl, q2.out.keep fun k v x h => s1 _ _ _ h⟩, ?_⟩
  exact ((y2.out.setCell (Nat.le_refl _) _).setCell (Nat.le_refl _) _).setCell (Nat.le_refl _) _

/-- What power gives back. -/
def RetPw (A : Rat) (k : Nat) (e : Ending) (w' : World) : Prop := ∃ (m : Bool) (a : Option Addr) (n c : Nat) (a' : Option Addr) (n' c' : Nat),
  e = .returned (.tuple #[.agg #[.bool m, .slice a n c, .slice a' n' c'], .bool (decide (nDigits (A.den ^ k) ≤ 4000))]) ∧ (nDigits (A.den ^ k) ≤ 4000 → IsQ .i64 w' (.agg #[.bool m, .slice a n c, .slice a' n' c']) (A ^ k))

theorem RetPow.open {n : Nat} {e : Ending} {w' : World} (h : RetPow n e w') : ∃ (a : Option Addr) (k c : Nat), e = .returned (.tuple #[.slice a k c, .bool (decide (nDigits n ≤ 4000))]) ∧ (nDigits n ≤ 4000 → IsN .i64 w' (.slice a k c) n) := by
  rcases h with ⟨h, v, rfl, hv⟩ | ⟨h, rfl⟩
  · obtain ⟨a, c, rfl, _⟩ := hv.openI
    exact ⟨_, _, _, by rw [decide_eq_true h], fun _ => hv⟩
  · exact ⟨none, 0, 0, by rw [decide_eq_false (by omega)], fun h' => absurd h (by omega)⟩

set_option maxRecDepth 100000 in
set_option maxHeartbeats 1000000 in
theorem r6_power (w : World) (v : Value) (A : Rat) (k : Nat) (hk : k ≤ 100000) (h : IsQ .i64 w v A) (h0 : 0 ≤ A.num) (hle : A.num.natAbs ≤ A.den) (hd1 : nDigits A.num.natAbs ≤ 4000) (hd2 : nDigits A.den ≤ 4000) :
    Calls Tryz.prog 74 #[v, .int .i64 k] w fun e w' => RetPw A k e w' ∧ Below w.heap.size w w' := by
  obtain ⟨m, a, n, c, a', n', c', rfl⟩ := h.qv
  obtain ⟨hN, hD⟩ := h.parts
  have P1 := fun V hV => hid (r1_Power V (.slice a n c) A.num.natAbs k hV hd1 (by omega))
  have P2 := fun V hV => hid (r1_Power V (.slice a' n' c') A.den k hV hd2 (by omega))
  obtain ⟨pp1, pp2, pp3⟩ := pow_parts A k
  have hneg : decide (A.num < 0) = false := by rw [decide_eq_false_iff_not]; omega
  rw [hneg, Bool.false_and] at pp1
  have PP := hid (And.intro pp1 (And.intro pp2 pp3))
  have hmono : Hid (nDigits (A.den ^ k) ≤ 4000 → nDigits (A.num.natAbs ^ k) ≤ 4000) := fun h => Nat.le_trans (nDigits_mono (Nat.pow_le_pow_left hle k)) h
  have HN := hid hN; have HD := hid hD
  clear h0 hle hd1 hd2 h hN hD pp1 pp2 pp3 hneg
  unfold RetPw
  obtain ⟨X, hX⟩ : ∃ X, A.num.natAbs ^ k = X := ⟨_, rfl⟩
  obtain ⟨Y, hY⟩ : ∃ Y, A.den ^ k = Y := ⟨_, rfl⟩
  rw [hX] at P1 PP hmono
  rw [hY] at P2 PP hmono ⊢
  obtain ⟨B, hB⟩ : ∃ B, A ^ k = B := ⟨_, rfl⟩
  rw [hB] at PP ⊢
  clear hX hY hB
  have t0 := hid ((Blk.new w #[.bool m, .slice a n c, .slice a' n' c'] 51).alloc (.cells #[.bool false, .slice none 0 0, .slice none 0 0] 51))
  have t1 := hid (Blk.made (w.alloc (.cells #[.bool m, .slice a n c, .slice a' n' c'] 51)) #[.bool false, .slice none 0 0, .slice none 0 0] 51 (n := w.heap.size + 1) (by simp))
  have b0 := hid (((Below.refl w.heap.size w).alloc (Nat.le_refl _) (.cells #[.bool m, .slice a n c, .slice a' n' c'] 51)).alloc (by simp) (.cells #[.bool false, .slice none 0 0, .slice none 0 0] 51))
  have N0 := hid (HN.out.call b0.out); have D0 := hid (HD.out.call b0.out)
  go_enter Tryz.func74, Tryz.ntmps74
  go_wp2_with fail
  refine (P1 _ N0.out).out.mono ?_; rintro e w1 ⟨hr, hb1⟩
  obtain ⟨a1, k1, c1, rfl, hn1⟩ := hr.open
  have b1 := hid (bnext b0.out hb1); have u0 := hid (t0.out.call hb1); have u1 := hid (t1.out.call hb1); have D1 := hid (D0.out.call hb1)
  have HN1 := hid hn1
  have g2 := u0.out.cell 2
  simp at g2
  clear hr hb1 hn1 P1 t0 t1 N0 D0
  go_wp2_with fail
  refine (P2 _ D1.out).out.mono ?_; rintro e w2 ⟨hr, hb2⟩
  obtain ⟨a2, k2, c2, rfl, hn2⟩ := hr.open
  have b2 := hid (bnext b1.out hb2); have v1 := hid (u1.out.call hb2)
  have HN2 := hid hn2
  have HN1' : Hid (nDigits X ≤ 4000 → IsN .i64 w2 (.slice a1 k1 c1) X) := fun h => (HN1.out h).call hb2
  have d0 := v1.out.cell 0
  have d1 := v1.out.cell 1
  have d2 := v1.out.cell 2
  have e0 := v1.out.free 0
  have e1 := v1.out.free 1
  have e2 := v1.out.free 2
  simp at d0 d1 d2
  obtain ⟨z, hz⟩ : ∃ z, decide (nDigits Y ≤ 4000) = z := ⟨_, rfl⟩
  have HZ := hid hz
  rw [hz]
  clear hr hb2 hn2 P2 u0 u1 D1 HN1 hz
  go_wp2_with fail
  obtain ⟨s1, s2⟩ := set3 v1.out false a1 a2 k1 c1 k2 c2
  have f0 := s2.cell 0
  have f1 := s2.cell 1
  have f2 := s2.cell 2
  simp at f0 f1 f2
  refine bodyPost_ret (v := .tuple #[.agg #[.bool false, .slice a1 k1 c1, .slice a2 k2 c2], .bool z]) (by simp [results, Tryz.results74, go_sem, f0, f1, f2]) rfl ⟨⟨false, a1, k1, c1, a2, k2, c2, by rw [HZ.out], fun h => ?_⟩, ?_⟩
  · obtain ⟨q1, q2, q3⟩ := PP.out
    exact ⟨_, _, by rw [q1], s1 _ _ _ (by rw [q2]; exact HN1'.out (hmono.out h)), s1 _ _ _ (by rw [q3]; exact HN2.out h)⟩
  · exact ((b2.out.setCell (Nat.le_succ _) _).setCell (Nat.le_succ _) _).setCell (Nat.le_succ _) _
end Go.Proofs.YtikfgddgfddbaaaGreatDoor

/- Walks: the reference's Ratio, both. -/
namespace Go.Proofs.YtikfgddgfddbaaaGreatDoor
open Go.RowKit
open Go.Lib (decDigits nDigits)
set_option linter.unusedVariables false
set_option linter.unusedSimpArgs false

set_option maxRecDepth 100000 in
set_option maxHeartbeats 1000000 in
theorem r6_Ratio (w : World) (s : ByteArray) (hs : s.size ≤ 1000000) : Calls Tryz.prog 55 #[.string s] w fun e w' => e = .returned (.int .i64 (gPE s)) ∧ Below w.heap.size w w' := by
  have R0 := fun V => hid (r2_Check V s hs)
  have R1 := fun V => hid (r2_Read V s hs)
  by_cases hq : qE s = 0
  · have R2 := fun V => hid (r4_Short V s hs hq)
    have hg := gPE_ref hq
    obtain ⟨n, hn⟩ : ∃ n, (vQ s).num.natAbs = n := ⟨_, rfl⟩
    obtain ⟨d, hd⟩ : ∃ d, (vQ s).den = d := ⟨_, rfl⟩
    have HQ := hid hq
    rw [hn, hd] at R2 hg
    rw [hq] at R0
    have HN := hid hn; have HD := hid hd
    clear hs hn hd hq
    by_cases hm : (vQ s).num < 0
    · rw [if_pos hm] at hg
      rw [hg]
      have HM := hid (show decide ((vQ s).num < 0) = true from by simpa using hm)
      clear hg hm R2
      go_enter Tryz.func55, Tryz.ntmps55
      go_wp2_with fail
      refine (R0 _).out.mono ?_; rintro e w0 ⟨rfl, hb0⟩
      have y0 := hid hb0
      clear hb0
      go_wp2_with fail
      refine (R1 _).out.mono ?_; rintro e w1 ⟨hr1, hb1⟩
      obtain ⟨m, a, k, c, a', k', c', rfl, h1, h2⟩ := hr1.open
      have q := h1 HQ.out
      rw [HQ.out]
      have MS := hid q.sign
      obtain ⟨hN, hD⟩ := q.parts
      rw [HN.out] at hN
      rw [HD.out] at hD
      have b2 := hid ((Below.refl w1.heap.size w1).alloc (Nat.le_refl _) (.cells #[.bool m, .slice a k c, .slice a' k' c'] 51))
      have X2 := hid (Blk.new w1 #[.bool m, .slice a k c, .slice a' k' c'] 51)
      have N2 := hid (hN.call b2.out); have D2 := hid (hD.call b2.out)
      have y2 := hid (bnext (bnext y0.out hb1) b2.out)
      have g0 := X2.out.cell 0
      have g1 := X2.out.cell 1
      have g2 := X2.out.cell 2
      simp at g0 g1 g2
      clear h1 h2 hr1 hb1 q hN hD b2
      clear g1 g2
      obtain rfl : m = true := MS.out.trans HM.out
      go_wp2_with fail
      go_ret
      exact ⟨rfl, y2.out⟩
    · rw [if_neg hm] at hg
      have HM := hid (show decide ((vQ s).num < 0) = false from by simpa using hm)
      by_cases hle : d ≤ n
      · rw [if_pos hle] at hg
        rw [hg]
        have HO : Hid (decide (0 ≤ ordN n d) = true) := by
          show decide (0 ≤ ordN n d) = true
          rw [decide_eq_true_iff]
          unfold ordN
          split
          · omega
          · split <;> omega
        clear hg hm R2 hle
        go_enter Tryz.func55, Tryz.ntmps55
        go_wp2_with fail
        refine (R0 _).out.mono ?_; rintro e w0 ⟨rfl, hb0⟩
        have y0 := hid hb0
        clear hb0
        go_wp2_with fail
        refine (R1 _).out.mono ?_; rintro e w1 ⟨hr1, hb1⟩
        obtain ⟨m, a, k, c, a', k', c', rfl, h1, h2⟩ := hr1.open
        have q := h1 HQ.out
        rw [HQ.out]
        have MS := hid q.sign
        obtain ⟨hN, hD⟩ := q.parts
        rw [HN.out] at hN
        rw [HD.out] at hD
        have b2 := hid ((Below.refl w1.heap.size w1).alloc (Nat.le_refl _) (.cells #[.bool m, .slice a k c, .slice a' k' c'] 51))
        have X2 := hid (Blk.new w1 #[.bool m, .slice a k c, .slice a' k' c'] 51)
        have N2 := hid (hN.call b2.out); have D2 := hid (hD.call b2.out)
        have y2 := hid (bnext (bnext y0.out hb1) b2.out)
        have g0 := X2.out.cell 0
        have g1 := X2.out.cell 1
        have g2 := X2.out.cell 2
        simp at g0 g1 g2
        clear h1 h2 hr1 hb1 q hN hD b2
        obtain rfl : m = false := MS.out.trans HM.out
        go_wp2_with fail
        refine (r1_Order _ _ _ _ _ N2.out D2.out).mono ?_; rintro e w3 ⟨rfl, hb3⟩
        have y3 := hid (bnext y2.out hb3)
        clear hb3
        obtain ⟨t, ht⟩ : ∃ t, ordN n d = t := ⟨_, rfl⟩
        have q1 := HO.out
        rw [ht] at q1 ⊢
        clear ht
        go_wp2_with fail
        go_ret
        exact ⟨rfl, y3.out⟩
      · rw [if_neg hle] at hg
        rw [hg]
        have HO : Hid (decide (0 ≤ ordN n d) = false) := by
          show decide (0 ≤ ordN n d) = false
          rw [decide_eq_false_iff_not]
          unfold ordN
          split
          · omega
          · omega
        clear hg hm hle
        obtain ⟨x, hx⟩ : ∃ x, shE n d = x := ⟨_, rfl⟩
        rw [hx] at R2 ⊢
        clear hx
        go_enter Tryz.func55, Tryz.ntmps55
        go_wp2_with fail
        refine (R0 _).out.mono ?_; rintro e w0 ⟨rfl, hb0⟩
        have y0 := hid hb0
        clear hb0
        go_wp2_with fail
        refine (R1 _).out.mono ?_; rintro e w1 ⟨hr1, hb1⟩
        obtain ⟨m, a, k, c, a', k', c', rfl, h1, h2⟩ := hr1.open
        have q := h1 HQ.out
        rw [HQ.out]
        have MS := hid q.sign
        obtain ⟨hN, hD⟩ := q.parts
        rw [HN.out] at hN
        rw [HD.out] at hD
        have b2 := hid ((Below.refl w1.heap.size w1).alloc (Nat.le_refl _) (.cells #[.bool m, .slice a k c, .slice a' k' c'] 51))
        have X2 := hid (Blk.new w1 #[.bool m, .slice a k c, .slice a' k' c'] 51)
        have N2 := hid (hN.call b2.out); have D2 := hid (hD.call b2.out)
        have y2 := hid (bnext (bnext y0.out hb1) b2.out)
        have g0 := X2.out.cell 0
        have g1 := X2.out.cell 1
        have g2 := X2.out.cell 2
        simp at g0 g1 g2
        clear h1 h2 hr1 hb1 q hN hD b2
        obtain rfl : m = false := MS.out.trans HM.out
        go_wp2_with fail
        refine (r1_Order _ _ _ _ _ N2.out D2.out).mono ?_; rintro e w3 ⟨rfl, hb3⟩
        have y3 := hid (bnext y2.out hb3)
        clear hb3
        obtain ⟨t, ht⟩ : ∃ t, ordN n d = t := ⟨_, rfl⟩
        have q1 := HO.out
        rw [ht] at q1 ⊢
        clear ht
        go_wp2_with fail
        refine (R2 _).out.mono ?_; rintro e w4 ⟨rfl, hb4⟩
        have y4 := hid (bnext y3.out hb4)
        clear hb4
        go_wp2_with fail
        go_ret
        exact ⟨rfl, y4.out⟩
  · have hg : gPE s = qE s := if_pos hq
    rw [hg]
    obtain ⟨x, hx⟩ : ∃ x, qE s = x := ⟨_, rfl⟩
    rw [hx] at hq R0 ⊢
    have q0 : (x != 0) = true := by simpa using hq
    clear hq hx hg hs R1
    go_enter Tryz.func55, Tryz.ntmps55
    go_wp2_with fail
    refine (R0 _).out.mono ?_; rintro e w0 ⟨rfl, hb0⟩
    have y0 := hid hb0
    clear hb0
    go_wp2_with fail
    go_ret
    exact ⟨rfl, y0.out⟩

set_option maxRecDepth 100000 in
set_option maxHeartbeats 1000000 in
theorem r6_both (w : World) (a b : ByteArray) (ha : a.size ≤ 1000000) (hb : b.size ≤ 1000000) : Calls Tryz.prog 28 #[.string a, .string b] w fun e w' => e = .returned (.int .i64 (gE a b)) ∧ Below w.heap.size w w' := by
  have R0 := fun V => hid (r6_Ratio V a ha)
  have R1 := fun V => hid (r4_Bits V b (by omega))
  unfold gE
  obtain ⟨x, hx⟩ : ∃ x, gPE a = x := ⟨_, rfl⟩
  obtain ⟨y, hy⟩ : ∃ y, chkE b = y := ⟨_, rfl⟩
  rw [hx] at R0 ⊢
  rw [hy] at R1 ⊢
  clear hx hy ha hb
  by_cases h0 : x = 0
  · subst h0
    rw [if_neg (by simp)]
    go_enter Tryz.func28, Tryz.ntmps28
    go_wp2_with fail
    refine (R0 _).out.mono ?_; rintro e w0 ⟨rfl, hb0⟩
    have y0 := hid hb0
    clear hb0
    go_wp2_with fail
    refine (R1 _).out.mono ?_; rintro e w1 ⟨rfl, rfl⟩
    go_wp2_with fail
    go_ret
    exact ⟨rfl, y0.out⟩
  · rw [if_pos h0]
    have q0 : (x != 0) = true := by simpa using h0
    clear h0
    go_enter Tryz.func28, Tryz.ntmps28
    go_wp2_with fail
    refine (R0 _).out.mono ?_; rintro e w0 ⟨rfl, hb0⟩
    have y0 := hid hb0
    clear hb0
    go_wp2_with fail
    go_ret
    exact ⟨rfl, y0.out⟩
end Go.Proofs.YtikfgddgfddbaaaGreatDoor

/- Walks: the reference's formula, where the ratio and the integer are right. -/
namespace Go.Proofs.YtikfgddgfddbaaaGreatDoor
open Go.RowKit
open Go.Lib (decDigits nDigits)
set_option linter.unusedVariables false
set_option linter.unusedSimpArgs false

/-- Numbers that may be computed with. -/
def Lb (q : Rat) : Prop := (limbs q.num.natAbs).length ≤ 100000 ∧ (limbs q.den).length ≤ 100000
theorem Dig.lb {K : Nat} {q : Rat} (h : Dig K q) (h0 : 0 < K) (hK : K ≤ 900000) : Lb q := h.limbs h0 (by omega)

theorem ov_times (w : World) (v u : Value) (p q : Rat) (hp : IsQ .i64 w v p) (hq : IsQ .i64 w u q) (h1 : Lb p) (h2 : Lb q) : Calls Tryz.prog 44 #[v, u] w fun e w' => RetQ .i64 (p * q) e w' ∧ Below w.heap.size w w' := r2_Times w v u p q hp hq h1.1 h1.2 h2.1 h2.2
theorem ov_plus (w : World) (v u : Value) (p q : Rat) (hp : IsQ .i64 w v p) (hq : IsQ .i64 w u q) (h1 : Lb p) (h2 : Lb q) : Calls Tryz.prog 43 #[v, u] w fun e w' => RetQ .i64 (p + q) e w' ∧ Below w.heap.size w w' := r2_Plus w v u p q hp hq h1.1 h1.2 h2.1 h2.2
theorem ov_write (w : World) (v : Value) (q : Rat) (h : IsQ .i64 w v q) (h1 : Lb q) : Calls Tryz.prog 42 #[v] w fun e w' => e = .returned (.tuple #[.string (outB q), .int .i64 (outE q)]) ∧ Below w.heap.size w w' := r2_Write w v q h (Nat.le_trans h1.1 (by omega)) (Nat.le_trans h1.2 (by omega))

/-- A struct of the call's own, made behind V, holds q. -/
def NewQ (V wx : World) (s : Value) (q : Rat) : Prop := ∃ (g : Nat) (m : Bool) (a : Option Addr) (n c : Nat) (a' : Option Addr) (n' c' : Nat), s = .pointer (some ⟨g, 0, none⟩) ∧ V.heap.size ≤ g ∧ Blk wx g #[.bool m, .slice a n c, .slice a' n' c'] 51 ∧ IsQ .i64 wx (.agg #[.bool m, .slice a n c, .slice a' n' c']) q ∧ Below V.heap.size V wx

theorem NewQ.of {V wx : World} {s : Value} {q : Rat} (g : Nat) (m : Bool) (a : Option Addr) (n c : Nat) (a' : Option Addr) (n' c' : Nat) (h1 : s = .pointer (some ⟨g, 0, none⟩)) (h2 : V.heap.size ≤ g) (h3 : Blk wx g #[.bool m, .slice a n c, .slice a' n' c'] 51) (h4 : IsQ .i64 wx (.agg #[.bool m, .slice a n c, .slice a' n' c']) q) (h5 : Below V.heap.size V wx) : NewQ V wx s q :=
  ⟨g, m, a, n, c, a', n', c', h1, h2, h3, h4, h5⟩
theorem bnextV {V w w' : World} (h : Below V.heap.size V w) (k : Below w.heap.size w w') : Below V.heap.size V w' := h.trans (k.mono h.size)

/-- The text and the error of a result where a power's denominator may be too long. -/
def pvB (A : Rat) (m : Nat) (R : Rat) : ByteArray := if 4000 < nDigits (A.den ^ m) then ⟨#[]⟩ else outB R
def pvE (A : Rat) (m : Nat) (R : Rat) : Int := if 4000 < nDigits (A.den ^ m) then 5 else outE R

/-- The ways of formula: the exponent, the result. -/
def FmKey (two tail : Bool) (k : Int) (m : Nat) (A : Rat) (T : ByteArray) (x : Int) : Prop :=
  (two = false ∧ tail = false ∧ k < 0 ∧ T = ⟨#[48]⟩ ∧ x = 0) ∨
  (two = false ∧ tail = true ∧ k < 0 ∧ T = ⟨#[49]⟩ ∧ x = 0) ∨
  (two = false ∧ tail = false ∧ k = m ∧ T = pvB A m ((1 + -A) * A ^ m) ∧ x = pvE A m ((1 + -A) * A ^ m)) ∨
  (two = false ∧ tail = true ∧ k = m ∧ T = pvB A m (A ^ m) ∧ x = pvE A m (A ^ m)) ∨
  (two = true ∧ tail = false ∧ max k (-k) = m ∧ T = pvB A m (((1 + -A) * (1 + A)⁻¹) * A ^ m) ∧ x = pvE A m (((1 + -A) * (1 + A)⁻¹) * A ^ m)) ∨
  (two = true ∧ tail = true ∧ k < 1 ∧ 1 - k = m ∧ T = pvB A m (1 + -((1 + A)⁻¹ * A ^ m)) ∧ x = pvE A m (1 + -((1 + A)⁻¹ * A ^ m))) ∨
  (two = true ∧ tail = true ∧ 1 ≤ k ∧ k = m ∧ T = pvB A m ((1 + A)⁻¹ * A ^ m) ∧ x = pvE A m ((1 + A)⁻¹ * A ^ m))

set_option maxRecDepth 100000 in
set_option maxHeartbeats 4000000 in
theorem fm_main (w : World) (a : ByteArray) (k : Int) (m : Nat) (two tail : Bool) (A : Rat) (T : ByteArray) (x : Int) (ha : a.size ≤ 100000) (hg : gPE a = 0) (hA : vQ a = A) (hk : -10000 ≤ k ∧ k ≤ 10000) (hm : m ≤ 100000) (key : FmKey two tail k m A T x) :
    Calls Tryz.prog 34 #[.string a, .int .i64 k, .bool two, .bool tail] w fun e w' => e = .returned (.tuple #[.string T, .int .i64 x]) ∧ Below w.heap.size w w' := by
  have R0 := fun V => hid (r6_Ratio V a (by omega))
  rw [hg] at R0
  have R1 := fun V => hid (r2_Read V a (by omega))
  obtain ⟨hq, hnum, hlt, hdig⟩ := ratio_is hg
  rw [hA] at hnum hlt hdig
  have HQ := hid hq; have HA := hid hA
  have n1 := one_plus hnum
  have dA : Lb A := hdig.lb (by omega) (by omega)
  have d1 : Lb (1 : Rat) := dig_one.lb (by omega) (by omega)
  have dN : Lb (-A) := (dig_neg hdig).lb (by omega) (by omega)
  have dS : Lb (1 + A) := (dig_add dig_one hdig).lb (by omega) (by omega)
  have dNot : Dig 1002 (1 + -A) := (dig_add dig_one (dig_neg hdig)).up (by omega)
  have dInv : Dig 1002 ((1 + A)⁻¹) := dig_inv n1 ((dig_add dig_one hdig).up (by omega))
  have dNS : Dig 2004 ((1 + -A) * (1 + A)⁻¹) := dig_mul dNot dInv
  have hpw := fun V v (hV : IsQ .i64 V v A) => hid (r6_power V v A m hm hV hnum (Nat.le_of_lt hlt) (Nat.le_trans (nDigits_le (by omega) hdig.n) (by omega)) (Nat.le_trans (nDigits_le (by omega) hdig.d) (by omega)))
  have HDIG := hid (And.intro dNot (And.intro dInv dNS))
  have hfit : Hid (nDigits (A.den ^ m) ≤ 4000 → Dig 4000 (A ^ m)) := by
    intro h
    obtain ⟨-, pp2, pp3⟩ := pow_parts A m
    refine dig_of ?_ ?_
    · rw [pp2]; exact Nat.le_trans (nDigits_mono (Nat.pow_le_pow_left (Nat.le_of_lt hlt) m)) h
    · rw [pp3]; exact h
  have P1 := fun V v u hp hq => hid (ov_plus V v u 1 (-A) hp hq d1 dN)
  have P2 := fun V v u hp hq => hid (ov_plus V v u 1 A hp hq d1 dA)
  have HN1 := hid n1
  have q0 : decide (k < -10000) = false := by simp; omega
  have q1 : decide (10000 < k) = false := by simp; omega
  have HK := hid hk
  have HKEY := hid key
  clear ha hg hq hnum hlt hdig n1 dA d1 dN dS dNot dInv dNS key hA hk hm
  go_enter Tryz.func34, Tryz.ntmps34
  go_wp2_with fail
  refine (R0 _).out.mono ?_; rintro e w1 ⟨rfl, hb1⟩
  have y1 := hid hb1
  clear hb1
  go_wp2_with fail
  refine (R1 _).out.mono ?_; rintro e w2 ⟨hr, hb2⟩
  obtain ⟨pm, pa, pn, pc, pa', pn', pc', rfl, h1, -⟩ := hr.open
  have hqA := h1 HQ.out
  rw [HA.out] at hqA
  rw [HQ.out]
  have y2 := hid (bnext y1.out hb2)
  have IQ2 := hid hqA
  clear hr hb2 h1 hqA R0 R1 y1
  go_upto_region 7 with fail
  obtain ⟨g11, hg11⟩ : ∃ g, w2.heap.size = g := ⟨_, rfl⟩
  obtain ⟨V, hV⟩ : ∃ V, w2.alloc (.cells #[.bool pm, .slice pa pn pc, .slice pa' pn' pc'] 51) = V := ⟨_, rfl⟩
  have VB0 : Below w2.heap.size w2 V := by rw [← hV]; exact (Below.refl _ _).alloc (Nat.le_refl _) _
  have X0 : Blk V g11 #[.bool pm, .slice pa pn pc, .slice pa' pn' pc'] 51 := by rw [← hV, ← hg11]; exact Blk.new w2 _ _
  have VB := hid (bnext y2.out VB0)
  have IQ := hid (IQ2.out.call VB0)
  have X11 := hid X0
  rw [hg11, hV]
  clear VB0 X0 hV hg11 IQ2 y2
  have d0 := X11.out.cell 0
  have d1 := X11.out.cell 1
  have d2 := X11.out.cell 2
  simp at d0 d1 d2
  go_cut [13] (fun s13 wx => NewQ V wx s13 (1 + -A))
  case first =>
    have KK : Hid (∀ w', Below V.heap.size V w' → w'.cell? ⟨g11, 0, none⟩ = some (.bool pm) ∧ w'.cell? ⟨g11, 1, none⟩ = some (.slice pa pn pc) ∧ w'.cell? ⟨g11, 2, none⟩ = some (.slice pa' pn' pc')) := fun w' hb => by
      have y := X11.out.call hb
      exact ⟨y.cell 0, y.cell 1, y.cell 2⟩
    refine held_plain [1] 5 (fun w' => w'.cell? ⟨g11, 0, none⟩ = some (.bool pm) ∧ w'.cell? ⟨g11, 1, none⟩ = some (.slice pa pn pc) ∧ w'.cell? ⟨g11, 2, none⟩ = some (.slice pa' pn' pc')) (by kernel_rfl) (by kernel_rfl) (by kernel_rfl) (by kernel_rfl) (KK.out _ (Below.refl _ _).drew) ?_
    iterate 1
      refine ⟨_, rfl, ?_⟩
      apply Exists.intro
      refine ⟨.inl ⟨by rfl, ?_⟩, ?_⟩
      · (intro W' hW'; obtain ⟨q1, q2, q3⟩ := hW'; go_simp; try (with_reducible rfl))
      (dsimp only [Act.put]; try simp only [List.setIfInBounds_toArray, List.set_cons_zero, List.set_cons_succ])
    refine held_two (i := 0) (j := 4) (by kernel_rfl) (by rfl) (by rfl) (by rfl) (by rfl) ?_ ?_
    · go_wp2_with fail
      refine (r6_sure _).mono ?_; rintro e wk ⟨⟨vk, rfl, hvk⟩, hbk⟩
      have yk := hid (bnextV (show Below V.heap.size V V.drew from (Below.refl _ _).drew) hbk)
      obtain ⟨mk, ak, nk, ck, bk, jk, dk, rfl⟩ := hvk.qv
      have Ok := hid hvk
      clear hvk hbk
      go_wp2_with fail
      refine ⟨KK.out _ yk.out, ?_⟩
      refine held_two (i := 2) (j := 4) (by kernel_rfl) (by rfl) (by rfl) (by rfl) (by rfl) ?_ ?_
      · go_wp2_with fail
        refine (r2_Negative _ _ A (IQ.out.call yk.out)).mono ?_; rintro e wkk ⟨⟨vkk, rfl, hvkk⟩, hbkk⟩
        have ykk := hid (bnextV yk.out hbkk)
        have Okk := hid (Ok.out.call hbkk)
        obtain ⟨mkk, akk, nkk, ckk, bkk, jkk, dkk, rfl⟩ := hvkk.qv
        have Gkk := hid hvkk
        clear hvkk hbkk
        go_wp2_with fail
        refine ⟨KK.out _ ykk.out, ?_⟩
        refine held_two (i := 3) (j := 4) (by kernel_rfl) (by rfl) (by rfl) (by rfl) (by rfl) ?_ ?_
        · go_wp2_with fail
          refine ((P1 _ _ _ Okk.out Gkk.out).out).mono ?_; rintro e wkkk ⟨⟨vkkk, rfl, hvkkk⟩, hbkkk⟩
          have ykkk := hid (bnextV ykk.out hbkkk)
          have Okkk := hid (Okk.out.call hbkkk)
          have Gkkk := hid (Gkk.out.call hbkkk)
          obtain ⟨mkkk, akkk, nkkk, ckkk, bkkk, jkkk, dkkk, rfl⟩ := hvkkk.qv
          have Rkkk := hid hvkkk
          clear hvkkk hbkkk
          go_wp2_with fail
          refine ⟨KK.out _ ykkk.out, ?_⟩
          refine held_one (i := 4) (by kernel_rfl) (by rfl) (by rfl) ?_
          go_wp2_with fail
          have ykkkl := hid (ykkk.out.alloc ykkk.out.size (.cells #[.bool false, .slice none 0 0, .slice none 0 0] 51))
          have Kkkkl := hid (Blk.new wkkk #[.bool false, .slice none 0 0, .slice none 0 0] 51)
          have gkkkl : Hid (V.heap.size ≤ wkkk.heap.size) := ykkk.out.size
          refine ⟨KK.out _ ykkkl.out, ?_⟩
          refine held_one (i := 5) (by kernel_rfl) (by rfl) (by rfl) ?_
          go_wp2_with fail
          refine ⟨KK.out _ (ykkk.out.alloc ykkk.out.size _), ?_⟩
          refine wpAnyH_done (by kernel_rfl) ?_ _
          simp only [Only]
          go_wp2_with fail
          go_meet
          exact NewQ.of wkkk.heap.size mkkk akkk nkkk ckkk bkkk jkkk dkkk rfl ykkk.out.size (Blk.new wkkk _ _) (Rkkk.out.call ((Below.refl _ _).alloc (Nat.le_refl _) _)) (ykkk.out.alloc ykkk.out.size _)
        · go_wp2_with fail
          have ykkl := hid (ykk.out.alloc ykk.out.size (.cells #[.bool false, .slice none 0 0, .slice none 0 0] 51))
          have Kkkl := hid (Blk.new wkk #[.bool false, .slice none 0 0, .slice none 0 0] 51)
          have gkkl : Hid (V.heap.size ≤ wkk.heap.size) := ykk.out.size
          have Okkl := hid (Okk.out.call ((Below.refl wkk.heap.size wkk).alloc (Nat.le_refl _) (.cells #[.bool false, .slice none 0 0, .slice none 0 0] 51)))
          have Gkkl := hid (Gkk.out.call ((Below.refl wkk.heap.size wkk).alloc (Nat.le_refl _) (.cells #[.bool false, .slice none 0 0, .slice none 0 0] 51)))
          refine ⟨KK.out _ ykkl.out, ?_⟩
          refine held_one (i := 3) (by kernel_rfl) (by rfl) (by rfl) ?_
          go_wp2_with fail
          refine ((P1 _ _ _ Okkl.out Gkkl.out).out).mono ?_; rintro e wkklk ⟨⟨vkklk, rfl, hvkklk⟩, hbkklk⟩
          have ykklk := hid (bnextV ykkl.out hbkklk)
          have Okklk := hid (Okkl.out.call hbkklk)
          have Gkklk := hid (Gkkl.out.call hbkklk)
          have Kkklk := hid (Kkkl.out.call hbkklk)
          obtain ⟨mkklk, akklk, nkklk, ckklk, bkklk, jkklk, dkklk, rfl⟩ := hvkklk.qv
          have Rkklk := hid hvkklk
          clear hvkklk hbkklk
          go_wp2_with fail
          refine ⟨KK.out _ ykklk.out, ?_⟩
          have r0 := Kkklk.out.cell 0
          have r1 := Kkklk.out.cell 1
          have r2 := Kkklk.out.cell 2
          have f0 := Kkklk.out.free 0
          have f1 := Kkklk.out.free 1
          have f2 := Kkklk.out.free 2
          simp at r0 r1 r2
          refine held_one (i := 5) (by kernel_rfl) (by rfl) (by rfl) ?_
          go_wp2_with fail
          refine ⟨KK.out _ (((ykklk.out.setCell gkkl.out _).setCell gkkl.out _).setCell gkkl.out _), ?_⟩
          refine wpAnyH_done (by kernel_rfl) ?_ _
          simp only [Only]
          obtain ⟨u1, u2⟩ := set3 Kkklk.out mkklk akklk bkklk nkklk ckklk jkklk dkklk
          have U1 := hid u1; have U2 := hid u2
          clear u1 u2 r0 r1 r2 f0 f1 f2
          go_wp2_with fail
          go_meet
          exact NewQ.of _ mkklk akklk nkklk ckklk bkklk jkklk dkklk rfl gkkl.out U2.out (Rkklk.out.keep fun k v x h => U1.out _ _ _ h) (((ykklk.out.setCell gkkl.out _).setCell gkkl.out _).setCell gkkl.out _)
      · go_wp2_with fail
        have ykl := hid (yk.out.alloc yk.out.size (.cells #[.bool false, .slice none 0 0, .slice none 0 0] 51))
        have Kkl := hid (Blk.new wk #[.bool false, .slice none 0 0, .slice none 0 0] 51)
        have gkl : Hid (V.heap.size ≤ wk.heap.size) := yk.out.size
        have Okl := hid (Ok.out.call ((Below.refl wk.heap.size wk).alloc (Nat.le_refl _) (.cells #[.bool false, .slice none 0 0, .slice none 0 0] 51)))
        refine ⟨KK.out _ ykl.out, ?_⟩
        refine held_one (i := 2) (by kernel_rfl) (by rfl) (by rfl) ?_
        go_wp2_with fail
        refine (r2_Negative _ _ A (IQ.out.call ykl.out)).mono ?_; rintro e wklk ⟨⟨vklk, rfl, hvklk⟩, hbklk⟩
        have yklk := hid (bnextV ykl.out hbklk)
        have Oklk := hid (Okl.out.call hbklk)
        have Kklk := hid (Kkl.out.call hbklk)
        obtain ⟨mklk, aklk, nklk, cklk, bklk, jklk, dklk, rfl⟩ := hvklk.qv
        have Gklk := hid hvklk
        clear hvklk hbklk
        go_wp2_with fail
        refine ⟨KK.out _ yklk.out, ?_⟩
        refine held_one (i := 3) (by kernel_rfl) (by rfl) (by rfl) ?_
        go_wp2_with fail
        refine ((P1 _ _ _ Oklk.out Gklk.out).out).mono ?_; rintro e wklkk ⟨⟨vklkk, rfl, hvklkk⟩, hbklkk⟩
        have yklkk := hid (bnextV yklk.out hbklkk)
        have Oklkk := hid (Oklk.out.call hbklkk)
        have Gklkk := hid (Gklk.out.call hbklkk)
        have Kklkk := hid (Kklk.out.call hbklkk)
        obtain ⟨mklkk, aklkk, nklkk, cklkk, bklkk, jklkk, dklkk, rfl⟩ := hvklkk.qv
        have Rklkk := hid hvklkk
        clear hvklkk hbklkk
        go_wp2_with fail
        refine ⟨KK.out _ yklkk.out, ?_⟩
        have r0 := Kklkk.out.cell 0
        have r1 := Kklkk.out.cell 1
        have r2 := Kklkk.out.cell 2
        have f0 := Kklkk.out.free 0
        have f1 := Kklkk.out.free 1
        have f2 := Kklkk.out.free 2
        simp at r0 r1 r2
        refine held_one (i := 5) (by kernel_rfl) (by rfl) (by rfl) ?_
        go_wp2_with fail
        refine ⟨KK.out _ (((yklkk.out.setCell gkl.out _).setCell gkl.out _).setCell gkl.out _), ?_⟩
        refine wpAnyH_done (by kernel_rfl) ?_ _
        simp only [Only]
        obtain ⟨u1, u2⟩ := set3 Kklkk.out mklkk aklkk bklkk nklkk cklkk jklkk dklkk
        have U1 := hid u1; have U2 := hid u2
        clear u1 u2 r0 r1 r2 f0 f1 f2
        go_wp2_with fail
        go_meet
        exact NewQ.of _ mklkk aklkk nklkk cklkk bklkk jklkk dklkk rfl gkl.out U2.out (Rklkk.out.keep fun k v x h => U1.out _ _ _ h) (((yklkk.out.setCell gkl.out _).setCell gkl.out _).setCell gkl.out _)
    · go_wp2_with fail
      have yl := hid (show Below V.heap.size V (V.alloc (.cells #[.bool false, .slice none 0 0, .slice none 0 0] 51)).drew from ((Below.refl _ _).alloc (Nat.le_refl _) _).drew)
      have Kl := hid (show Blk (V.alloc (.cells #[.bool false, .slice none 0 0, .slice none 0 0] 51)).drew V.heap.size #[.bool false, .slice none 0 0, .slice none 0 0] 51 from Blk.new V _ _)
      have gl : Hid (V.heap.size ≤ V.heap.size) := Nat.le_refl _
      refine ⟨KK.out _ yl.out, ?_⟩
      refine held_one (i := 0) (by kernel_rfl) (by rfl) (by rfl) ?_
      go_wp2_with fail
      refine (r6_sure _).mono ?_; rintro e wlk ⟨⟨vlk, rfl, hvlk⟩, hblk⟩
      have ylk := hid (bnextV yl.out hblk)
      have Klk := hid (Kl.out.call hblk)
      obtain ⟨mlk, alk, nlk, clk, blk, jlk, dlk, rfl⟩ := hvlk.qv
      have Olk := hid hvlk
      clear hvlk hblk
      go_wp2_with fail
      refine ⟨KK.out _ ylk.out, ?_⟩
      refine held_one (i := 2) (by kernel_rfl) (by rfl) (by rfl) ?_
      go_wp2_with fail
      refine (r2_Negative _ _ A (IQ.out.call ylk.out)).mono ?_; rintro e wlkk ⟨⟨vlkk, rfl, hvlkk⟩, hblkk⟩
      have ylkk := hid (bnextV ylk.out hblkk)
      have Olkk := hid (Olk.out.call hblkk)
      have Klkk := hid (Klk.out.call hblkk)
      obtain ⟨mlkk, alkk, nlkk, clkk, blkk, jlkk, dlkk, rfl⟩ := hvlkk.qv
      have Glkk := hid hvlkk
      clear hvlkk hblkk
      go_wp2_with fail
      refine ⟨KK.out _ ylkk.out, ?_⟩
      refine held_one (i := 3) (by kernel_rfl) (by rfl) (by rfl) ?_
      go_wp2_with fail
      refine ((P1 _ _ _ Olkk.out Glkk.out).out).mono ?_; rintro e wlkkk ⟨⟨vlkkk, rfl, hvlkkk⟩, hblkkk⟩
      have ylkkk := hid (bnextV ylkk.out hblkkk)
      have Olkkk := hid (Olkk.out.call hblkkk)
      have Glkkk := hid (Glkk.out.call hblkkk)
      have Klkkk := hid (Klkk.out.call hblkkk)
      obtain ⟨mlkkk, alkkk, nlkkk, clkkk, blkkk, jlkkk, dlkkk, rfl⟩ := hvlkkk.qv
      have Rlkkk := hid hvlkkk
      clear hvlkkk hblkkk
      go_wp2_with fail
      refine ⟨KK.out _ ylkkk.out, ?_⟩
      have r0 := Klkkk.out.cell 0
      have r1 := Klkkk.out.cell 1
      have r2 := Klkkk.out.cell 2
      have f0 := Klkkk.out.free 0
      have f1 := Klkkk.out.free 1
      have f2 := Klkkk.out.free 2
      simp at r0 r1 r2
      refine held_one (i := 5) (by kernel_rfl) (by rfl) (by rfl) ?_
      go_wp2_with fail
      refine ⟨KK.out _ (((ylkkk.out.setCell gl.out _).setCell gl.out _).setCell gl.out _), ?_⟩
      refine wpAnyH_done (by kernel_rfl) ?_ _
      simp only [Only]
      obtain ⟨u1, u2⟩ := set3 Klkkk.out mlkkk alkkk blkkk nlkkk clkkk jlkkk dlkkk
      have U1 := hid u1; have U2 := hid u2
      clear u1 u2 r0 r1 r2 f0 f1 f2
      go_wp2_with fail
      go_meet
      exact NewQ.of _ mlkkk alkkk nlkkk clkkk blkkk jlkkk dlkkk rfl gl.out U2.out (Rlkkk.out.keep fun k v x h => U1.out _ _ _ h) (((ylkkk.out.setCell gl.out _).setCell gl.out _).setCell gl.out _)
  case rest =>
    obtain ⟨g13, tm, ta, tn, tc, tb, tj, td, rfl, hge13, hb13, hq13, hB⟩ := hcut
    have VBw := hid (bnext VB.out hB); have X11w := hid (X11.out.call hB); have IQw := hid (IQ.out.call hB)
    have B13 := hid hb13; have Q13 := hid hq13
    have N13 : Hid (g11 ≠ g13) := by have := X11.out.lt; show g11 ≠ g13; omega
    clear hge13 hb13 hq13 hB d0 d1 d2 VB X11 IQ
    have VB := VBw; have X11 := X11w; have IQ := IQw
    clear VBw X11w IQw
    have d0 := X11.out.cell 0
    have d1 := X11.out.cell 1
    have d2 := X11.out.cell 2
    simp at d0 d1 d2
    go_upto_region 8 with fail
    go_cut [14] (fun s14 wx => NewQ wc wx s14 ((1 + A)⁻¹))
    case first =>
      have KK : Hid (∀ w', Below wc.heap.size wc w' → w'.cell? ⟨g11, 0, none⟩ = some (.bool pm) ∧ w'.cell? ⟨g11, 1, none⟩ = some (.slice pa pn pc) ∧ w'.cell? ⟨g11, 2, none⟩ = some (.slice pa' pn' pc')) := fun w' hb => by
        have y := X11.out.call hb
        exact ⟨y.cell 0, y.cell 1, y.cell 2⟩
      refine held_plain [1] 5 (fun w' => w'.cell? ⟨g11, 0, none⟩ = some (.bool pm) ∧ w'.cell? ⟨g11, 1, none⟩ = some (.slice pa pn pc) ∧ w'.cell? ⟨g11, 2, none⟩ = some (.slice pa' pn' pc')) (by kernel_rfl) (by kernel_rfl) (by kernel_rfl) (by kernel_rfl) (KK.out _ (Below.refl _ _).drew) ?_
      iterate 1
        refine ⟨_, rfl, ?_⟩
        apply Exists.intro
        refine ⟨.inl ⟨by rfl, ?_⟩, ?_⟩
        · (intro W' hW'; obtain ⟨q1, q2, q3⟩ := hW'; go_simp; try (with_reducible rfl))
        (dsimp only [Act.put]; try simp only [List.setIfInBounds_toArray, List.set_cons_zero, List.set_cons_succ])
      refine held_two (i := 0) (j := 4) (by kernel_rfl) (by rfl) (by rfl) (by rfl) (by rfl) ?_ ?_
      · go_wp2_with fail
        refine (r6_sure _).mono ?_; rintro e wk ⟨⟨vk, rfl, hvk⟩, hbk⟩
        have yk := hid (bnextV (show Below wc.heap.size wc wc.drew from (Below.refl _ _).drew) hbk)
        obtain ⟨mk, ak, nk, ck, bk, jk, dk, rfl⟩ := hvk.qv
        have Ok := hid hvk
        clear hvk hbk
        go_wp2_with fail
        refine ⟨KK.out _ yk.out, ?_⟩
        refine held_two (i := 2) (j := 4) (by kernel_rfl) (by rfl) (by rfl) (by rfl) (by rfl) ?_ ?_
        · go_wp2_with fail
          refine ((P2 _ _ _ Ok.out (IQ.out.call yk.out)).out).mono ?_; rintro e wkk ⟨⟨vkk, rfl, hvkk⟩, hbkk⟩
          have ykk := hid (bnextV yk.out hbkk)
          have Okk := hid (Ok.out.call hbkk)
          obtain ⟨mkk, akk, nkk, ckk, bkk, jkk, dkk, rfl⟩ := hvkk.qv
          have Gkk := hid hvkk
          clear hvkk hbkk
          go_wp2_with fail
          refine ⟨KK.out _ ykk.out, ?_⟩
          refine held_two (i := 3) (j := 4) (by kernel_rfl) (by rfl) (by rfl) (by rfl) (by rfl) ?_ ?_
          · go_wp2_with fail
            refine (r2_Over _ _ _ Gkk.out HN1.out).mono ?_; rintro e wkkk ⟨⟨vkkk, rfl, hvkkk⟩, hbkkk⟩
            have ykkk := hid (bnextV ykk.out hbkkk)
            have Okkk := hid (Okk.out.call hbkkk)
            have Gkkk := hid (Gkk.out.call hbkkk)
            obtain ⟨mkkk, akkk, nkkk, ckkk, bkkk, jkkk, dkkk, rfl⟩ := hvkkk.qv
            have Rkkk := hid hvkkk
            clear hvkkk hbkkk
            go_wp2_with fail
            refine ⟨KK.out _ ykkk.out, ?_⟩
            refine held_one (i := 4) (by kernel_rfl) (by rfl) (by rfl) ?_
            go_wp2_with fail
            have ykkkl := hid (ykkk.out.alloc ykkk.out.size (.cells #[.bool false, .slice none 0 0, .slice none 0 0] 51))
            have Kkkkl := hid (Blk.new wkkk #[.bool false, .slice none 0 0, .slice none 0 0] 51)
            have gkkkl : Hid (wc.heap.size ≤ wkkk.heap.size) := ykkk.out.size
            refine ⟨KK.out _ ykkkl.out, ?_⟩
            refine held_one (i := 5) (by kernel_rfl) (by rfl) (by rfl) ?_
            go_wp2_with fail
            refine ⟨KK.out _ (ykkk.out.alloc ykkk.out.size _), ?_⟩
            refine wpAnyH_done (by kernel_rfl) ?_ _
            simp only [Only]
            go_wp2_with fail
            go_meet
            exact NewQ.of wkkk.heap.size mkkk akkk nkkk ckkk bkkk jkkk dkkk rfl ykkk.out.size (Blk.new wkkk _ _) (Rkkk.out.call ((Below.refl _ _).alloc (Nat.le_refl _) _)) (ykkk.out.alloc ykkk.out.size _)
          · go_wp2_with fail
            have ykkl := hid (ykk.out.alloc ykk.out.size (.cells #[.bool false, .slice none 0 0, .slice none 0 0] 51))
            have Kkkl := hid (Blk.new wkk #[.bool false, .slice none 0 0, .slice none 0 0] 51)
            have gkkl : Hid (wc.heap.size ≤ wkk.heap.size) := ykk.out.size
            have Okkl := hid (Okk.out.call ((Below.refl wkk.heap.size wkk).alloc (Nat.le_refl _) (.cells #[.bool false, .slice none 0 0, .slice none 0 0] 51)))
            have Gkkl := hid (Gkk.out.call ((Below.refl wkk.heap.size wkk).alloc (Nat.le_refl _) (.cells #[.bool false, .slice none 0 0, .slice none 0 0] 51)))
            refine ⟨KK.out _ ykkl.out, ?_⟩
            refine held_one (i := 3) (by kernel_rfl) (by rfl) (by rfl) ?_
            go_wp2_with fail
            refine (r2_Over _ _ _ Gkkl.out HN1.out).mono ?_; rintro e wkklk ⟨⟨vkklk, rfl, hvkklk⟩, hbkklk⟩
            have ykklk := hid (bnextV ykkl.out hbkklk)
            have Okklk := hid (Okkl.out.call hbkklk)
            have Gkklk := hid (Gkkl.out.call hbkklk)
            have Kkklk := hid (Kkkl.out.call hbkklk)
            obtain ⟨mkklk, akklk, nkklk, ckklk, bkklk, jkklk, dkklk, rfl⟩ := hvkklk.qv
            have Rkklk := hid hvkklk
            clear hvkklk hbkklk
            go_wp2_with fail
            refine ⟨KK.out _ ykklk.out, ?_⟩
            have r0 := Kkklk.out.cell 0
            have r1 := Kkklk.out.cell 1
            have r2 := Kkklk.out.cell 2
            have f0 := Kkklk.out.free 0
            have f1 := Kkklk.out.free 1
            have f2 := Kkklk.out.free 2
            simp at r0 r1 r2
            refine held_one (i := 5) (by kernel_rfl) (by rfl) (by rfl) ?_
            go_wp2_with fail
            refine ⟨KK.out _ (((ykklk.out.setCell gkkl.out _).setCell gkkl.out _).setCell gkkl.out _), ?_⟩
            refine wpAnyH_done (by kernel_rfl) ?_ _
            simp only [Only]
            obtain ⟨u1, u2⟩ := set3 Kkklk.out mkklk akklk bkklk nkklk ckklk jkklk dkklk
            have U1 := hid u1; have U2 := hid u2
            clear u1 u2 r0 r1 r2 f0 f1 f2
            go_wp2_with fail
            go_meet
            exact NewQ.of _ mkklk akklk nkklk ckklk bkklk jkklk dkklk rfl gkkl.out U2.out (Rkklk.out.keep fun k v x h => U1.out _ _ _ h) (((ykklk.out.setCell gkkl.out _).setCell gkkl.out _).setCell gkkl.out _)
        · go_wp2_with fail
          have ykl := hid (yk.out.alloc yk.out.size (.cells #[.bool false, .slice none 0 0, .slice none 0 0] 51))
          have Kkl := hid (Blk.new wk #[.bool false, .slice none 0 0, .slice none 0 0] 51)
          have gkl : Hid (wc.heap.size ≤ wk.heap.size) := yk.out.size
          have Okl := hid (Ok.out.call ((Below.refl wk.heap.size wk).alloc (Nat.le_refl _) (.cells #[.bool false, .slice none 0 0, .slice none 0 0] 51)))
          refine ⟨KK.out _ ykl.out, ?_⟩
          refine held_one (i := 2) (by kernel_rfl) (by rfl) (by rfl) ?_
          go_wp2_with fail
          refine ((P2 _ _ _ Okl.out (IQ.out.call ykl.out)).out).mono ?_; rintro e wklk ⟨⟨vklk, rfl, hvklk⟩, hbklk⟩
          have yklk := hid (bnextV ykl.out hbklk)
          have Oklk := hid (Okl.out.call hbklk)
          have Kklk := hid (Kkl.out.call hbklk)
          obtain ⟨mklk, aklk, nklk, cklk, bklk, jklk, dklk, rfl⟩ := hvklk.qv
          have Gklk := hid hvklk
          clear hvklk hbklk
          go_wp2_with fail
          refine ⟨KK.out _ yklk.out, ?_⟩
          refine held_one (i := 3) (by kernel_rfl) (by rfl) (by rfl) ?_
          go_wp2_with fail
          refine (r2_Over _ _ _ Gklk.out HN1.out).mono ?_; rintro e wklkk ⟨⟨vklkk, rfl, hvklkk⟩, hbklkk⟩
          have yklkk := hid (bnextV yklk.out hbklkk)
          have Oklkk := hid (Oklk.out.call hbklkk)
          have Gklkk := hid (Gklk.out.call hbklkk)
          have Kklkk := hid (Kklk.out.call hbklkk)
          obtain ⟨mklkk, aklkk, nklkk, cklkk, bklkk, jklkk, dklkk, rfl⟩ := hvklkk.qv
          have Rklkk := hid hvklkk
          clear hvklkk hbklkk
          go_wp2_with fail
          refine ⟨KK.out _ yklkk.out, ?_⟩
          have r0 := Kklkk.out.cell 0
          have r1 := Kklkk.out.cell 1
          have r2 := Kklkk.out.cell 2
          have f0 := Kklkk.out.free 0
          have f1 := Kklkk.out.free 1
          have f2 := Kklkk.out.free 2
          simp at r0 r1 r2
          refine held_one (i := 5) (by kernel_rfl) (by rfl) (by rfl) ?_
          go_wp2_with fail
          refine ⟨KK.out _ (((yklkk.out.setCell gkl.out _).setCell gkl.out _).setCell gkl.out _), ?_⟩
          refine wpAnyH_done (by kernel_rfl) ?_ _
          simp only [Only]
          obtain ⟨u1, u2⟩ := set3 Kklkk.out mklkk aklkk bklkk nklkk cklkk jklkk dklkk
          have U1 := hid u1; have U2 := hid u2
          clear u1 u2 r0 r1 r2 f0 f1 f2
          go_wp2_with fail
          go_meet
          exact NewQ.of _ mklkk aklkk nklkk cklkk bklkk jklkk dklkk rfl gkl.out U2.out (Rklkk.out.keep fun k v x h => U1.out _ _ _ h) (((yklkk.out.setCell gkl.out _).setCell gkl.out _).setCell gkl.out _)
      · go_wp2_with fail
        have yl := hid (show Below wc.heap.size wc (wc.alloc (.cells #[.bool false, .slice none 0 0, .slice none 0 0] 51)).drew from ((Below.refl _ _).alloc (Nat.le_refl _) _).drew)
        have Kl := hid (show Blk (wc.alloc (.cells #[.bool false, .slice none 0 0, .slice none 0 0] 51)).drew wc.heap.size #[.bool false, .slice none 0 0, .slice none 0 0] 51 from Blk.new wc _ _)
        have gl : Hid (wc.heap.size ≤ wc.heap.size) := Nat.le_refl _
        refine ⟨KK.out _ yl.out, ?_⟩
        refine held_one (i := 0) (by kernel_rfl) (by rfl) (by rfl) ?_
        go_wp2_with fail
        refine (r6_sure _).mono ?_; rintro e wlk ⟨⟨vlk, rfl, hvlk⟩, hblk⟩
        have ylk := hid (bnextV yl.out hblk)
        have Klk := hid (Kl.out.call hblk)
        obtain ⟨mlk, alk, nlk, clk, blk, jlk, dlk, rfl⟩ := hvlk.qv
        have Olk := hid hvlk
        clear hvlk hblk
        go_wp2_with fail
        refine ⟨KK.out _ ylk.out, ?_⟩
        refine held_one (i := 2) (by kernel_rfl) (by rfl) (by rfl) ?_
        go_wp2_with fail
        refine ((P2 _ _ _ Olk.out (IQ.out.call ylk.out)).out).mono ?_; rintro e wlkk ⟨⟨vlkk, rfl, hvlkk⟩, hblkk⟩
        have ylkk := hid (bnextV ylk.out hblkk)
        have Olkk := hid (Olk.out.call hblkk)
        have Klkk := hid (Klk.out.call hblkk)
        obtain ⟨mlkk, alkk, nlkk, clkk, blkk, jlkk, dlkk, rfl⟩ := hvlkk.qv
        have Glkk := hid hvlkk
        clear hvlkk hblkk
        go_wp2_with fail
        refine ⟨KK.out _ ylkk.out, ?_⟩
        refine held_one (i := 3) (by kernel_rfl) (by rfl) (by rfl) ?_
        go_wp2_with fail
        refine (r2_Over _ _ _ Glkk.out HN1.out).mono ?_; rintro e wlkkk ⟨⟨vlkkk, rfl, hvlkkk⟩, hblkkk⟩
        have ylkkk := hid (bnextV ylkk.out hblkkk)
        have Olkkk := hid (Olkk.out.call hblkkk)
        have Glkkk := hid (Glkk.out.call hblkkk)
        have Klkkk := hid (Klkk.out.call hblkkk)
        obtain ⟨mlkkk, alkkk, nlkkk, clkkk, blkkk, jlkkk, dlkkk, rfl⟩ := hvlkkk.qv
        have Rlkkk := hid hvlkkk
        clear hvlkkk hblkkk
        go_wp2_with fail
        refine ⟨KK.out _ ylkkk.out, ?_⟩
        have r0 := Klkkk.out.cell 0
        have r1 := Klkkk.out.cell 1
        have r2 := Klkkk.out.cell 2
        have f0 := Klkkk.out.free 0
        have f1 := Klkkk.out.free 1
        have f2 := Klkkk.out.free 2
        simp at r0 r1 r2
        refine held_one (i := 5) (by kernel_rfl) (by rfl) (by rfl) ?_
        go_wp2_with fail
        refine ⟨KK.out _ (((ylkkk.out.setCell gl.out _).setCell gl.out _).setCell gl.out _), ?_⟩
        refine wpAnyH_done (by kernel_rfl) ?_ _
        simp only [Only]
        obtain ⟨u1, u2⟩ := set3 Klkkk.out mlkkk alkkk blkkk nlkkk clkkk jlkkk dlkkk
        have U1 := hid u1; have U2 := hid u2
        clear u1 u2 r0 r1 r2 f0 f1 f2
        go_wp2_with fail
        go_meet
        exact NewQ.of _ mlkkk alkkk nlkkk clkkk blkkk jlkkk dlkkk rfl gl.out U2.out (Rlkkk.out.keep fun k v x h => U1.out _ _ _ h) (((ylkkk.out.setCell gl.out _).setCell gl.out _).setCell gl.out _)
    case rest =>
      obtain ⟨g14, um, ua, un, uc, ub, uj, ud, rfl, hge14, hb14, hq14, hB⟩ := hcut
      have VBw := hid (bnext VB.out hB); have X11w := hid (X11.out.call hB); have IQw := hid (IQ.out.call hB); have B13w := hid (B13.out.call hB); have Q13w := hid (Q13.out.call hB)
      have B14 := hid hb14; have Q14 := hid hq14
      have N14 : Hid (g11 ≠ g14 ∧ g13 ≠ g14) := by
        have h1 := X11.out.lt; have h2 := B13.out.lt
        exact ⟨by omega, by omega⟩
      clear hge14 hb14 hq14 hB d0 d1 d2 VB X11 IQ B13 Q13
      have VB := VBw; have X11 := X11w; have IQ := IQw; have B13 := B13w; have Q13 := Q13w
      clear VBw X11w IQw B13w Q13w
      have d0 := X11.out.cell 0
      have d1 := X11.out.cell 1
      have d2 := X11.out.cell 2
      simp at d0 d1 d2
      rcases HKEY.out with ⟨rfl, rfl, h0, HT, Hx⟩ | ⟨rfl, rfl, h0, HT, Hx⟩ | ⟨rfl, rfl, rfl, HT, Hx⟩ | ⟨rfl, rfl, rfl, HT, Hx⟩ | ⟨rfl, rfl, h0, HT, Hx⟩ | ⟨rfl, rfl, h1, h0, HT, Hx⟩ | ⟨rfl, rfl, h1, rfl, HT, Hx⟩
      · have q4 : decide (k < 0) = true := by simpa using h0
        have HT := hid HT; have Hx := hid Hx
        clear h0 q0 q1
        go_wp2_with fail
        go_ret2
        exact ⟨by rw [HT.out, Hx.out]; rfl, VB.out⟩
      · have q4 : decide (k < 0) = true := by simpa using h0
        have HT := hid HT; have Hx := hid Hx
        clear h0 q0 q1
        go_wp2_with fail
        go_ret2
        exact ⟨by rw [HT.out, Hx.out]; rfl, VB.out⟩
      · have q4 : decide ((m : Int) < 0) = false := by simp
        have HT := hid HT; have Hx := hid Hx
        clear q0 q1
        go_wp2_with fail
        refine (hpw _ _ IQ.out).out.mono ?_; rintro e w5 ⟨hr, hb5⟩
        obtain ⟨xm, xa, xn, xc, xb, xj, xd, rfl, hx⟩ := hr
        have b16 := (Below.refl w5.heap.size w5).alloc (Nat.le_refl _) (.cells #[.bool xm, .slice xa xn xc, .slice xb xj xd] 51)
        have VB5 := hid (bnext (bnext VB.out hb5) b16); have C13 := hid ((B13.out.call hb5).call b16); have R13 := hid ((Q13.out.call hb5).call b16); have C14 := hid ((B14.out.call hb5).call b16); have R14 := hid ((Q14.out.call hb5).call b16)
        have hge5 : w.heap.size ≤ w5.heap.size := (bnext VB.out hb5).size
        have NG : Hid (g13 ≠ w5.heap.size ∧ g14 ≠ w5.heap.size ∧ w.heap.size ≤ w5.heap.size) := by
          have h1 := (B13.out.call hb5).lt; have h2 := (B14.out.call hb5).lt
          exact ⟨by omega, by omega, hge5⟩
        have X16 := hid (Blk.new w5 #[.bool xm, .slice xa xn xc, .slice xb xj xd] 51)
        have HXQ := hid (fun h => (hx h).call b16)
        by_cases hov : 4000 < nDigits (A.den ^ m)
        · have e1 : decide (nDigits (A.den ^ m) ≤ 4000) = false := by rw [decide_eq_false_iff_not]; omega
          rw [e1]
          have HOV := hid hov
          clear hov e1 hb5 b16 hx hge5 d0 d1 d2
          go_wp2_with fail
          go_ret2
          exact ⟨by rw [HT.out, Hx.out, pvB, pvE, if_pos HOV.out, if_pos HOV.out]; rfl, VB5.out⟩
        · have e1 : decide (nDigits (A.den ^ m) ≤ 4000) = true := by rw [decide_eq_true_iff]; omega
          rw [e1]
          have DX := hid (hfit.out (by omega))
          have IX := hid (HXQ.out (by omega))
          have HT' : Hid (T = outB ((1 + -A) * A ^ m)) := by show _ = _; rw [HT.out, pvB, if_neg hov]
          have Hx' : Hid (x = outE ((1 + -A) * A ^ m)) := by show _ = _; rw [Hx.out, pvE, if_neg hov]
          clear hov e1 hb5 b16 hx hge5 d0 d1 d2 HXQ HT Hx
          have s0 := C13.out.cell 0
          have s1 := C13.out.cell 1
          have s2 := C13.out.cell 2
          simp at s0 s1 s2
          have t0 := X16.out.cell 0
          have t1 := X16.out.cell 1
          have t2 := X16.out.cell 2
          simp at t0 t1 t2
          go_wp2_with fail
          obtain ⟨g16, hg16⟩ : ∃ g, w5.heap.size = g := ⟨_, rfl⟩
          obtain ⟨W, hW⟩ : ∃ W, w5.alloc (.cells #[.bool xm, .slice xa xn xc, .slice xb xj xd] 51) = W := ⟨_, rfl⟩
          rw [hW] at VB5 C13 R13 C14 R14 X16 IX ⊢
          rw [hg16] at X16 NG ⊢
          clear hW hg16
          clear s0 s1 s2 t0 t1 t2
          refine (ov_times _ _ _ (1 + -A) (A ^ m) R13.out IX.out (HDIG.out.1.lb (by omega) (by omega)) (DX.out.lb (by omega) (by omega))).mono ?_; rintro e w6 ⟨⟨v6, rfl, hv6⟩, hb6⟩
          obtain ⟨ym, ya, yn, yc, yb, yj, yd, rfl⟩ := hv6.qv
          have VB6 := hid (bnext VB5.out hb6); have X6 := hid (X16.out.call hb6); have Q6 := hid hv6
          clear hb6 hv6
          have t0 := X6.out.cell 0
          have t1 := X6.out.cell 1
          have t2 := X6.out.cell 2
          simp at t0 t1 t2
          have tf0 := X6.out.free 0
          have tf1 := X6.out.free 1
          have tf2 := X6.out.free 2
          go_wp2_with fail
          obtain ⟨u1, u2⟩ := set3 X6.out ym ya yb yn yc yj yd
          have WQ := hid (Q6.out.keep fun k v x h => u1 _ _ _ h)
          have hgeW : w.heap.size ≤ g16 := NG.out.2.2
          have WBB : Hid (Below w.heap.size w (((w6.setCell ⟨g16, 0, none⟩ (.bool ym)).setCell ⟨g16, 1, none⟩ (.slice ya yn yc)).setCell ⟨g16, 2, none⟩ (.slice yb yj yd))) := ((VB6.out.setCell hgeW _).setCell hgeW _).setCell hgeW _
          have U2 := hid u2
          clear u1 u2
          refine (ov_write _ _ ((1 + -A) * A ^ m) WQ.out ((dig_mul HDIG.out.1 DX.out).lb (by omega) (by omega))).mono ?_; rintro e w9 ⟨rfl, hb9⟩
          go_wp2_with fail
          go_ret2
          exact ⟨by rw [HT'.out, Hx'.out]; rfl, bnext WBB.out hb9⟩
      · have q4 : decide ((m : Int) < 0) = false := by simp
        have HT := hid HT; have Hx := hid Hx
        clear q0 q1
        go_wp2_with fail
        refine (hpw _ _ IQ.out).out.mono ?_; rintro e w5 ⟨hr, hb5⟩
        obtain ⟨xm, xa, xn, xc, xb, xj, xd, rfl, hx⟩ := hr
        have b16 := (Below.refl w5.heap.size w5).alloc (Nat.le_refl _) (.cells #[.bool xm, .slice xa xn xc, .slice xb xj xd] 51)
        have VB5 := hid (bnext (bnext VB.out hb5) b16); have C13 := hid ((B13.out.call hb5).call b16); have R13 := hid ((Q13.out.call hb5).call b16); have C14 := hid ((B14.out.call hb5).call b16); have R14 := hid ((Q14.out.call hb5).call b16)
        have hge5 : w.heap.size ≤ w5.heap.size := (bnext VB.out hb5).size
        have NG : Hid (g13 ≠ w5.heap.size ∧ g14 ≠ w5.heap.size ∧ w.heap.size ≤ w5.heap.size) := by
          have h1 := (B13.out.call hb5).lt; have h2 := (B14.out.call hb5).lt
          exact ⟨by omega, by omega, hge5⟩
        have X16 := hid (Blk.new w5 #[.bool xm, .slice xa xn xc, .slice xb xj xd] 51)
        have HXQ := hid (fun h => (hx h).call b16)
        by_cases hov : 4000 < nDigits (A.den ^ m)
        · have e1 : decide (nDigits (A.den ^ m) ≤ 4000) = false := by rw [decide_eq_false_iff_not]; omega
          rw [e1]
          have HOV := hid hov
          clear hov e1 hb5 b16 hx hge5 d0 d1 d2
          go_wp2_with fail
          go_ret2
          exact ⟨by rw [HT.out, Hx.out, pvB, pvE, if_pos HOV.out, if_pos HOV.out]; rfl, VB5.out⟩
        · have e1 : decide (nDigits (A.den ^ m) ≤ 4000) = true := by rw [decide_eq_true_iff]; omega
          rw [e1]
          have DX := hid (hfit.out (by omega))
          have IX := hid (HXQ.out (by omega))
          have HT' : Hid (T = outB (A ^ m)) := by show _ = _; rw [HT.out, pvB, if_neg hov]
          have Hx' : Hid (x = outE (A ^ m)) := by show _ = _; rw [Hx.out, pvE, if_neg hov]
          clear hov e1 hb5 b16 hx hge5 d0 d1 d2 HXQ HT Hx
          have t0 := X16.out.cell 0
          have t1 := X16.out.cell 1
          have t2 := X16.out.cell 2
          simp at t0 t1 t2
          go_wp2_with fail
          obtain ⟨g16, hg16⟩ : ∃ g, w5.heap.size = g := ⟨_, rfl⟩
          obtain ⟨W, hW⟩ : ∃ W, w5.alloc (.cells #[.bool xm, .slice xa xn xc, .slice xb xj xd] 51) = W := ⟨_, rfl⟩
          rw [hW] at VB5 C13 R13 C14 R14 X16 IX ⊢
          rw [hg16] at X16 NG ⊢
          clear hW hg16
          clear t0 t1 t2
          refine (ov_write _ _ (A ^ m) IX.out (DX.out.lb (by omega) (by omega))).mono ?_; rintro e w9 ⟨rfl, hb9⟩
          go_wp2_with fail
          go_ret2
          exact ⟨by rw [HT'.out, Hx'.out]; rfl, bnext VB5.out hb9⟩
      · have q4 : decide (k < 0) = false ∨ True := .inr trivial
        have wk : IntKind.i64.wrap (-k) = -k := by rw [IntWalk.i64_in _ ⟨by have := HK.out; omega, by have := HK.out; omega⟩]
        have hmx := hid h0
        clear h0 q4
        have HT := hid HT; have Hx := hid Hx
        clear q0 q1
        go_wp2_with fail
        rw [hmx.out]
        refine (hpw _ _ IQ.out).out.mono ?_; rintro e w5 ⟨hr, hb5⟩
        obtain ⟨xm, xa, xn, xc, xb, xj, xd, rfl, hx⟩ := hr
        have b16 := (Below.refl w5.heap.size w5).alloc (Nat.le_refl _) (.cells #[.bool xm, .slice xa xn xc, .slice xb xj xd] 51)
        have VB5 := hid (bnext (bnext VB.out hb5) b16); have C13 := hid ((B13.out.call hb5).call b16); have R13 := hid ((Q13.out.call hb5).call b16); have C14 := hid ((B14.out.call hb5).call b16); have R14 := hid ((Q14.out.call hb5).call b16)
        have hge5 : w.heap.size ≤ w5.heap.size := (bnext VB.out hb5).size
        have NG : Hid (g13 ≠ w5.heap.size ∧ g14 ≠ w5.heap.size ∧ w.heap.size ≤ w5.heap.size) := by
          have h1 := (B13.out.call hb5).lt; have h2 := (B14.out.call hb5).lt
          exact ⟨by omega, by omega, hge5⟩
        have X16 := hid (Blk.new w5 #[.bool xm, .slice xa xn xc, .slice xb xj xd] 51)
        have HXQ := hid (fun h => (hx h).call b16)
        by_cases hov : 4000 < nDigits (A.den ^ m)
        · have e1 : decide (nDigits (A.den ^ m) ≤ 4000) = false := by rw [decide_eq_false_iff_not]; omega
          rw [e1]
          have HOV := hid hov
          clear hov e1 hb5 b16 hx hge5 d0 d1 d2
          go_wp2_with fail
          go_ret2
          exact ⟨by rw [HT.out, Hx.out, pvB, pvE, if_pos HOV.out, if_pos HOV.out]; rfl, VB5.out⟩
        · have e1 : decide (nDigits (A.den ^ m) ≤ 4000) = true := by rw [decide_eq_true_iff]; omega
          rw [e1]
          have DX := hid (hfit.out (by omega))
          have IX := hid (HXQ.out (by omega))
          have HT' : Hid (T = outB (((1 + -A) * (1 + A)⁻¹) * A ^ m)) := by show _ = _; rw [HT.out, pvB, if_neg hov]
          have Hx' : Hid (x = outE (((1 + -A) * (1 + A)⁻¹) * A ^ m)) := by show _ = _; rw [Hx.out, pvE, if_neg hov]
          clear hov e1 hb5 b16 hx hge5 d0 d1 d2 HXQ HT Hx
          go_wp2_with fail
          obtain ⟨g16, hg16⟩ : ∃ g, w5.heap.size = g := ⟨_, rfl⟩
          obtain ⟨W, hW⟩ : ∃ W, w5.alloc (.cells #[.bool xm, .slice xa xn xc, .slice xb xj xd] 51) = W := ⟨_, rfl⟩
          rw [hW] at VB5 C13 R13 C14 R14 X16 IX ⊢
          rw [hg16] at X16 NG ⊢
          clear hW hg16
          have KS : Hid (∀ w', Below W.heap.size W w' → (w'.cell? ⟨g13, 0, none⟩ = some (.bool tm) ∧ w'.cell? ⟨g13, 1, none⟩ = some (.slice ta tn tc) ∧ w'.cell? ⟨g13, 2, none⟩ = some (.slice tb tj td)) ∧ (w'.cell? ⟨g14, 0, none⟩ = some (.bool um) ∧ w'.cell? ⟨g14, 1, none⟩ = some (.slice ua un uc) ∧ w'.cell? ⟨g14, 2, none⟩ = some (.slice ub uj ud)) ∧ w'.cell? ⟨g16, 0, none⟩ = some (.bool xm) ∧ w'.cell? ⟨g16, 1, none⟩ = some (.slice xa xn xc) ∧ w'.cell? ⟨g16, 2, none⟩ = some (.slice xb xj xd)) := fun w' hb => by
            have y := C13.out.call hb; have z := C14.out.call hb; have t := X16.out.call hb
            exact ⟨⟨y.cell 0, y.cell 1, y.cell 2⟩, ⟨z.cell 0, z.cell 1, z.cell 2⟩, t.cell 0, t.cell 1, t.cell 2⟩
          refine held_lasts 5 1 [0, 1, 3] 2 (fun w' => (w'.cell? ⟨g13, 0, none⟩ = some (.bool tm) ∧ w'.cell? ⟨g13, 1, none⟩ = some (.slice ta tn tc) ∧ w'.cell? ⟨g13, 2, none⟩ = some (.slice tb tj td)) ∧ (w'.cell? ⟨g14, 0, none⟩ = some (.bool um) ∧ w'.cell? ⟨g14, 1, none⟩ = some (.slice ua un uc) ∧ w'.cell? ⟨g14, 2, none⟩ = some (.slice ub uj ud)) ∧ w'.cell? ⟨g16, 0, none⟩ = some (.bool xm) ∧ w'.cell? ⟨g16, 1, none⟩ = some (.slice xa xn xc) ∧ w'.cell? ⟨g16, 2, none⟩ = some (.slice xb xj xd)) (by kernel_rfl) rfl (by kernel_rfl) (by kernel_rfl) (by kernel_rfl) (by kernel_rfl) (KS.out _ (Below.refl _ _).drew) ?_
          iterate 3
            refine ⟨_, rfl, ?_⟩
            apply Exists.intro
            refine ⟨.inl ⟨by rfl, ?_⟩, ?_⟩
            · (intro W' hW'; obtain ⟨⟨q1, q2, q3⟩, ⟨q4, q5, q6⟩, q7, q8, q9⟩ := hW'; go_simp; try (with_reducible rfl))
            (dsimp only [Act.put]; try simp only [List.setIfInBounds_toArray, List.set_cons_zero, List.set_cons_succ])
          refine held_one (i := 2) (by kernel_rfl) (by rfl) (by rfl) ?_
          go_wp2_with fail
          refine (ov_times _ _ _ (1 + -A) ((1 + A)⁻¹) (R13.out.call (Below.refl _ _).drew) (R14.out.call (Below.refl _ _).drew) (HDIG.out.1.lb (by omega) (by omega)) (HDIG.out.2.1.lb (by omega) (by omega))).mono ?_; rintro e w7 ⟨⟨v7, rfl, hv7⟩, hb7⟩
          have y7 := hid (bnextV (show Below W.heap.size W W.drew from (Below.refl _ _).drew) hb7)
          obtain ⟨zm, za, zn, zc, zb, zj, zd, rfl⟩ := hv7.qv
          have Q7 := hid hv7
          clear hv7 hb7
          go_wp2_with fail
          refine ⟨KS.out _ y7.out, ?_⟩
          refine held_one (i := 4) (by kernel_rfl) (by rfl) (by rfl) ?_
          go_wp2_with fail
          refine (ov_times _ _ _ ((1 + -A) * (1 + A)⁻¹) (A ^ m) Q7.out (IX.out.call y7.out) (HDIG.out.2.2.lb (by omega) (by omega)) (DX.out.lb (by omega) (by omega))).mono ?_; rintro e w6 ⟨⟨v6, rfl, hv6⟩, hb6'⟩
          have hb6 := bnextV y7.out hb6'
          clear hb6'
          obtain ⟨ym, ya, yn, yc, yb, yj, yd, rfl⟩ := hv6.qv
          have VB6 := hid (bnext VB5.out hb6); have X6 := hid (X16.out.call hb6); have Q6 := hid hv6; have y6 := hid hb6
          clear hb6 hv6
          go_wp2_with fail
          refine ⟨KS.out _ y6.out, ?_⟩
          refine wpAnyH_done (by kernel_rfl) ?_ _
          simp only [Only, ThenL, List.drop_succ_cons, List.drop_zero]
          have t0 := X6.out.cell 0
          have t1 := X6.out.cell 1
          have t2 := X6.out.cell 2
          simp at t0 t1 t2
          have tf0 := X6.out.free 0
          have tf1 := X6.out.free 1
          have tf2 := X6.out.free 2
          go_wp2_with fail
          try simp only [Only]
          obtain ⟨u1, u2⟩ := set3 X6.out ym ya yb yn yc yj yd
          have WQ := hid (Q6.out.keep fun k v x h => u1 _ _ _ h)
          have hgeW : w.heap.size ≤ g16 := NG.out.2.2
          have WBB : Hid (Below w.heap.size w (((w6.setCell ⟨g16, 0, none⟩ (.bool ym)).setCell ⟨g16, 1, none⟩ (.slice ya yn yc)).setCell ⟨g16, 2, none⟩ (.slice yb yj yd))) := ((VB6.out.setCell hgeW _).setCell hgeW _).setCell hgeW _
          have U2 := hid u2
          clear u1 u2
          go_wp2_with fail
          refine (ov_write _ _ (((1 + -A) * (1 + A)⁻¹) * A ^ m) WQ.out ((dig_mul HDIG.out.2.2 DX.out).lb (by omega) (by omega))).mono ?_; rintro e w9 ⟨rfl, hb9⟩
          go_wp2_with fail
          go_ret2
          exact ⟨by rw [HT'.out, Hx'.out]; rfl, bnext WBB.out hb9⟩
      · have q4 : decide (k < 1) = true := by simpa using h1
        have wk : IntKind.i64.wrap (1 - k) = (m : Int) := by rw [IntWalk.i64_in _ ⟨by have := HK.out; omega, by have := HK.out; omega⟩]; exact h0
        clear h0 h1
        have HT := hid HT; have Hx := hid Hx
        clear q0 q1
        go_wp2_with fail
        refine (hpw _ _ IQ.out).out.mono ?_; rintro e w5 ⟨hr, hb5⟩
        obtain ⟨xm, xa, xn, xc, xb, xj, xd, rfl, hx⟩ := hr
        have b16 := (Below.refl w5.heap.size w5).alloc (Nat.le_refl _) (.cells #[.bool xm, .slice xa xn xc, .slice xb xj xd] 51)
        have VB5 := hid (bnext (bnext VB.out hb5) b16); have C13 := hid ((B13.out.call hb5).call b16); have R13 := hid ((Q13.out.call hb5).call b16); have C14 := hid ((B14.out.call hb5).call b16); have R14 := hid ((Q14.out.call hb5).call b16)
        have hge5 : w.heap.size ≤ w5.heap.size := (bnext VB.out hb5).size
        have NG : Hid (g13 ≠ w5.heap.size ∧ g14 ≠ w5.heap.size ∧ w.heap.size ≤ w5.heap.size) := by
          have h1 := (B13.out.call hb5).lt; have h2 := (B14.out.call hb5).lt
          exact ⟨by omega, by omega, hge5⟩
        have X16 := hid (Blk.new w5 #[.bool xm, .slice xa xn xc, .slice xb xj xd] 51)
        have HXQ := hid (fun h => (hx h).call b16)
        by_cases hov : 4000 < nDigits (A.den ^ m)
        · have e1 : decide (nDigits (A.den ^ m) ≤ 4000) = false := by rw [decide_eq_false_iff_not]; omega
          rw [e1]
          have HOV := hid hov
          clear hov e1 hb5 b16 hx hge5 d0 d1 d2
          go_wp2_with fail
          go_ret2
          exact ⟨by rw [HT.out, Hx.out, pvB, pvE, if_pos HOV.out, if_pos HOV.out]; rfl, VB5.out⟩
        · have e1 : decide (nDigits (A.den ^ m) ≤ 4000) = true := by rw [decide_eq_true_iff]; omega
          rw [e1]
          have DX := hid (hfit.out (by omega))
          have IX := hid (HXQ.out (by omega))
          have HT' : Hid (T = outB (1 + -((1 + A)⁻¹ * A ^ m))) := by show _ = _; rw [HT.out, pvB, if_neg hov]
          have Hx' : Hid (x = outE (1 + -((1 + A)⁻¹ * A ^ m))) := by show _ = _; rw [Hx.out, pvE, if_neg hov]
          clear hov e1 hb5 b16 hx hge5 d0 d1 d2 HXQ HT Hx
          have s0 := C14.out.cell 0
          have s1 := C14.out.cell 1
          have s2 := C14.out.cell 2
          simp at s0 s1 s2
          have t0 := X16.out.cell 0
          have t1 := X16.out.cell 1
          have t2 := X16.out.cell 2
          simp at t0 t1 t2
          go_wp2_with fail
          obtain ⟨g16, hg16⟩ : ∃ g, w5.heap.size = g := ⟨_, rfl⟩
          obtain ⟨W, hW⟩ : ∃ W, w5.alloc (.cells #[.bool xm, .slice xa xn xc, .slice xb xj xd] 51) = W := ⟨_, rfl⟩
          rw [hW] at VB5 C13 R13 C14 R14 X16 IX ⊢
          rw [hg16] at X16 NG ⊢
          clear hW hg16
          clear s0 s1 s2 t0 t1 t2
          refine (ov_times _ _ _ ((1 + A)⁻¹) (A ^ m) R14.out IX.out (HDIG.out.2.1.lb (by omega) (by omega)) (DX.out.lb (by omega) (by omega))).mono ?_; rintro e w6 ⟨⟨v6, rfl, hv6⟩, hb6⟩
          obtain ⟨ym, ya, yn, yc, yb, yj, yd, rfl⟩ := hv6.qv
          have VB6 := hid (bnext VB5.out hb6); have X6 := hid (X16.out.call hb6); have Q6 := hid hv6
          clear hb6 hv6
          have t0 := X6.out.cell 0
          have t1 := X6.out.cell 1
          have t2 := X6.out.cell 2
          simp at t0 t1 t2
          have tf0 := X6.out.free 0
          have tf1 := X6.out.free 1
          have tf2 := X6.out.free 2
          go_wp2_with fail
          obtain ⟨u1, u2⟩ := set3 X6.out ym ya yb yn yc yj yd
          have WQ := hid (Q6.out.keep fun k v x h => u1 _ _ _ h)
          have hgeW : w.heap.size ≤ g16 := NG.out.2.2
          have WBB : Hid (Below w.heap.size w (((w6.setCell ⟨g16, 0, none⟩ (.bool ym)).setCell ⟨g16, 1, none⟩ (.slice ya yn yc)).setCell ⟨g16, 2, none⟩ (.slice yb yj yd))) := ((VB6.out.setCell hgeW _).setCell hgeW _).setCell hgeW _
          have U2 := hid u2
          clear u1 u2
          obtain ⟨W2, hW2⟩ : ∃ x, ((w6.setCell ⟨g16, 0, none⟩ (.bool ym)).setCell ⟨g16, 1, none⟩ (.slice ya yn yc)).setCell ⟨g16, 2, none⟩ (.slice yb yj yd) = x := ⟨_, rfl⟩
          rw [hW2] at WQ WBB U2 ⊢
          clear hW2
          have KS : Hid (∀ w', Below W2.heap.size W2 w' → w'.cell? ⟨g16, 0, none⟩ = some (.bool ym) ∧ w'.cell? ⟨g16, 1, none⟩ = some (.slice ya yn yc) ∧ w'.cell? ⟨g16, 2, none⟩ = some (.slice yb yj yd)) := fun w' hb => by
            have y := U2.out.call hb
            exact ⟨y.cell 0, y.cell 1, y.cell 2⟩
          refine held_lasts 4 1 [1] 3 (fun w' => w'.cell? ⟨g16, 0, none⟩ = some (.bool ym) ∧ w'.cell? ⟨g16, 1, none⟩ = some (.slice ya yn yc) ∧ w'.cell? ⟨g16, 2, none⟩ = some (.slice yb yj yd)) (by kernel_rfl) rfl (by kernel_rfl) (by kernel_rfl) (by kernel_rfl) (by kernel_rfl) (KS.out _ (Below.refl _ _).drew) ?_
          iterate 1
            refine ⟨_, rfl, ?_⟩
            apply Exists.intro
            refine ⟨.inl ⟨by rfl, ?_⟩, ?_⟩
            · (intro W' hW'; obtain ⟨q1, q2, q3⟩ := hW'; go_simp; try (with_reducible rfl))
            (dsimp only [Act.put]; try simp only [List.setIfInBounds_toArray, List.set_cons_zero, List.set_cons_succ])
          refine held_one (i := 0) (by kernel_rfl) (by rfl) (by rfl) ?_
          go_wp2_with fail
          refine (r6_sure _).mono ?_; rintro e w7 ⟨⟨v7, rfl, hv7⟩, hb7⟩
          have y7 := hid (bnextV (show Below W2.heap.size W2 W2.drew from (Below.refl _ _).drew) hb7)
          obtain ⟨zm, za, zn, zc, zb, zj, zd, rfl⟩ := hv7.qv
          have Q7 := hid hv7
          clear hv7 hb7
          go_wp2_with fail
          refine ⟨KS.out _ y7.out, ?_⟩
          refine held_one (i := 2) (by kernel_rfl) (by rfl) (by rfl) ?_
          go_wp2_with fail
          refine (r2_Negative _ _ _ (WQ.out.call y7.out)).mono ?_; rintro e w8 ⟨⟨v8, rfl, hv8⟩, hb8⟩
          have y8 := hid (bnextV y7.out hb8); have Q7' := hid (Q7.out.call hb8)
          obtain ⟨lm, la, ln, lc, lb, lj, ld, rfl⟩ := hv8.qv
          have Q8 := hid hv8
          clear hv8 hb8
          go_wp2_with fail
          refine ⟨KS.out _ y8.out, ?_⟩
          refine held_one (i := 3) (by kernel_rfl) (by rfl) (by rfl) ?_
          go_wp2_with fail
          refine (ov_plus _ _ _ 1 (-((1 + A)⁻¹ * A ^ m)) Q7'.out Q8.out (dig_one.lb (by omega) (by omega)) ((dig_neg (dig_mul HDIG.out.2.1 DX.out)).lb (by omega) (by omega))).mono ?_; rintro e w10 ⟨⟨v10, rfl, hv10⟩, hb10⟩
          have y10 := hid (bnextV y8.out hb10)
          obtain ⟨fm, fa, fn, fc, fb, fj, fd, rfl⟩ := hv10.qv
          have Q10 := hid hv10
          have X10 := hid (U2.out.call y10.out)
          clear hv10 hb10
          go_wp2_with fail
          refine ⟨KS.out _ y10.out, ?_⟩
          refine wpAnyH_done (by kernel_rfl) ?_ _
          simp only [Only, ThenL, List.drop_succ_cons, List.drop_zero]
          have r0 := X10.out.cell 0
          have r1 := X10.out.cell 1
          have r2 := X10.out.cell 2
          simp at r0 r1 r2
          have rf0 := X10.out.free 0
          have rf1 := X10.out.free 1
          have rf2 := X10.out.free 2
          go_wp2_with fail
          try simp only [Only]
          obtain ⟨u1, u2⟩ := set3 X10.out fm fa fb fn fc fj fd
          have WQ2 := hid (Q10.out.keep fun k v x h => u1 _ _ _ h)
          have VB10 := hid (bnext WBB.out y10.out)
          have WBC : Hid (Below w.heap.size w (((w10.setCell ⟨g16, 0, none⟩ (.bool fm)).setCell ⟨g16, 1, none⟩ (.slice fa fn fc)).setCell ⟨g16, 2, none⟩ (.slice fb fj fd))) := ((VB10.out.setCell hgeW _).setCell hgeW _).setCell hgeW _
          have U3 := hid u2
          clear u1 u2
          go_wp2_with fail
          refine (ov_write _ _ (1 + -((1 + A)⁻¹ * A ^ m)) WQ2.out ((dig_add dig_one (dig_neg (dig_mul HDIG.out.2.1 DX.out))).lb (by omega) (by omega))).mono ?_; rintro e w9 ⟨rfl, hb9⟩
          go_wp2_with fail
          go_ret2
          exact ⟨by rw [HT'.out, Hx'.out]; rfl, bnext WBC.out hb9⟩
      · have q4 : decide ((m : Int) < 1) = false := by rw [decide_eq_false_iff_not]; omega
        clear h1
        have HT := hid HT; have Hx := hid Hx
        clear q0 q1
        go_wp2_with fail
        refine (hpw _ _ IQ.out).out.mono ?_; rintro e w5 ⟨hr, hb5⟩
        obtain ⟨xm, xa, xn, xc, xb, xj, xd, rfl, hx⟩ := hr
        have b16 := (Below.refl w5.heap.size w5).alloc (Nat.le_refl _) (.cells #[.bool xm, .slice xa xn xc, .slice xb xj xd] 51)
        have VB5 := hid (bnext (bnext VB.out hb5) b16); have C13 := hid ((B13.out.call hb5).call b16); have R13 := hid ((Q13.out.call hb5).call b16); have C14 := hid ((B14.out.call hb5).call b16); have R14 := hid ((Q14.out.call hb5).call b16)
        have hge5 : w.heap.size ≤ w5.heap.size := (bnext VB.out hb5).size
        have NG : Hid (g13 ≠ w5.heap.size ∧ g14 ≠ w5.heap.size ∧ w.heap.size ≤ w5.heap.size) := by
          have h1 := (B13.out.call hb5).lt; have h2 := (B14.out.call hb5).lt
          exact ⟨by omega, by omega, hge5⟩
        have X16 := hid (Blk.new w5 #[.bool xm, .slice xa xn xc, .slice xb xj xd] 51)
        have HXQ := hid (fun h => (hx h).call b16)
        by_cases hov : 4000 < nDigits (A.den ^ m)
        · have e1 : decide (nDigits (A.den ^ m) ≤ 4000) = false := by rw [decide_eq_false_iff_not]; omega
          rw [e1]
          have HOV := hid hov
          clear hov e1 hb5 b16 hx hge5 d0 d1 d2
          go_wp2_with fail
          go_ret2
          exact ⟨by rw [HT.out, Hx.out, pvB, pvE, if_pos HOV.out, if_pos HOV.out]; rfl, VB5.out⟩
        · have e1 : decide (nDigits (A.den ^ m) ≤ 4000) = true := by rw [decide_eq_true_iff]; omega
          rw [e1]
          have DX := hid (hfit.out (by omega))
          have IX := hid (HXQ.out (by omega))
          have HT' : Hid (T = outB ((1 + A)⁻¹ * A ^ m)) := by show _ = _; rw [HT.out, pvB, if_neg hov]
          have Hx' : Hid (x = outE ((1 + A)⁻¹ * A ^ m)) := by show _ = _; rw [Hx.out, pvE, if_neg hov]
          clear hov e1 hb5 b16 hx hge5 d0 d1 d2 HXQ HT Hx
          have s0 := C14.out.cell 0
          have s1 := C14.out.cell 1
          have s2 := C14.out.cell 2
          simp at s0 s1 s2
          have t0 := X16.out.cell 0
          have t1 := X16.out.cell 1
          have t2 := X16.out.cell 2
          simp at t0 t1 t2
          go_wp2_with fail
          obtain ⟨g16, hg16⟩ : ∃ g, w5.heap.size = g := ⟨_, rfl⟩
          obtain ⟨W, hW⟩ : ∃ W, w5.alloc (.cells #[.bool xm, .slice xa xn xc, .slice xb xj xd] 51) = W := ⟨_, rfl⟩
          rw [hW] at VB5 C13 R13 C14 R14 X16 IX ⊢
          rw [hg16] at X16 NG ⊢
          clear hW hg16
          clear s0 s1 s2 t0 t1 t2
          refine (ov_times _ _ _ ((1 + A)⁻¹) (A ^ m) R14.out IX.out (HDIG.out.2.1.lb (by omega) (by omega)) (DX.out.lb (by omega) (by omega))).mono ?_; rintro e w6 ⟨⟨v6, rfl, hv6⟩, hb6⟩
          obtain ⟨ym, ya, yn, yc, yb, yj, yd, rfl⟩ := hv6.qv
          have VB6 := hid (bnext VB5.out hb6); have X6 := hid (X16.out.call hb6); have Q6 := hid hv6
          clear hb6 hv6
          have t0 := X6.out.cell 0
          have t1 := X6.out.cell 1
          have t2 := X6.out.cell 2
          simp at t0 t1 t2
          have tf0 := X6.out.free 0
          have tf1 := X6.out.free 1
          have tf2 := X6.out.free 2
          go_wp2_with fail
          obtain ⟨u1, u2⟩ := set3 X6.out ym ya yb yn yc yj yd
          have WQ := hid (Q6.out.keep fun k v x h => u1 _ _ _ h)
          have hgeW : w.heap.size ≤ g16 := NG.out.2.2
          have WBB : Hid (Below w.heap.size w (((w6.setCell ⟨g16, 0, none⟩ (.bool ym)).setCell ⟨g16, 1, none⟩ (.slice ya yn yc)).setCell ⟨g16, 2, none⟩ (.slice yb yj yd))) := ((VB6.out.setCell hgeW _).setCell hgeW _).setCell hgeW _
          have U2 := hid u2
          clear u1 u2
          refine (ov_write _ _ ((1 + A)⁻¹ * A ^ m) WQ.out ((dig_mul HDIG.out.2.1 DX.out).lb (by omega) (by omega))).mono ?_; rintro e w9 ⟨rfl, hb9⟩
          go_wp2_with fail
          go_ret2
          exact ⟨by rw [HT'.out, Hx'.out]; rfl, bnext WBB.out hb9⟩
end Go.Proofs.YtikfgddgfddbaaaGreatDoor

/- Plain: the reference's masses and tails are the program's. -/
namespace Go.Proofs.YtikfgddgfddbaaaGreatDoor
open Go.RowKit Go.Shelf
open Go.Lib (decDigits nDigits)
set_option linter.unusedVariables false
set_option linter.unusedSimpArgs false

theorem pow_ov {A : Rat} (hle : A.num.natAbs ≤ A.den) (k : Nat) : ovQ (A ^ k) ↔ 4000 < nDigits (A.den ^ k) := by
  obtain ⟨-, h2, h3⟩ := pow_parts A k
  unfold ovQ
  rw [h2, h3]
  constructor
  · rintro (h | h)
    · exact Nat.lt_of_lt_of_le h (nDigits_mono (Nat.pow_le_pow_left hle k))
    · exact h
  · exact .inr

theorem fr_ref (f : Rat → Rat) (m : Nat) (A : Rat) : frB f m false A = (if ovQ (A ^ m) then ⟨#[]⟩ else outB (f A * A ^ m)) ∧ frE f m false A = (if ovQ (A ^ m) then 5 else outE (f A * A ^ m)) := by
  unfold frB frE outB outE
  by_cases h1 : ovQ (A ^ m)
  · simp [h1]
  · by_cases h2 : ovQ (f A * A ^ m)
    · simp [h1, h2]
    · simp [h1, h2]

/-- What is left of 1 has the same denominator. -/
theorem den_dvd (p q : Rat) : (p + q).den ∣ p.den * q.den := by
  rw [q_add, Rat.den_mkRat]
  split
  · exact Nat.one_dvd _
  · exact Nat.div_dvd_of_dvd (Nat.gcd_dvd_left _ _)
theorem rest_den (x : Rat) : (1 - x).den = x.den := by
  have h1 := den_dvd 1 (-x)
  have h2 := den_dvd 1 (-(1 - x))
  rw [Rat.neg_den, show (1 : Rat).den = 1 from rfl, Nat.one_mul] at h1 h2
  rw [show (1 : Rat) + -x = 1 - x by grind] at h1
  rw [show (1 : Rat) + -(1 - x) = x by grind] at h2
  exact Nat.dvd_antisymm h1 h2
theorem rest_ov {x : Rat} (h0 : 0 ≤ x) (h1 : x ≤ 1) (h : ovQ x) : ovQ (1 - x) := by
  have hn : x.num.natAbs ≤ x.den := by
    have hh := (Rat.le_iff _ _).1 h1
    have h3 := Rat.num_nonneg.2 h0
    rw [show (1 : Rat).den = 1 from rfl, show (1 : Rat).num = 1 from rfl] at hh
    omega
  refine .inr ?_
  rw [rest_den]
  rcases h with h | h
  · exact Nat.lt_of_lt_of_le h (nDigits_mono hn)
  · exact h

theorem pow01 {A : Rat} (h0 : 0 ≤ A) (h1 : A ≤ 1) : ∀ m : Nat, 0 ≤ A ^ m ∧ A ^ m ≤ 1
  | 0 => by rw [Rat.pow_zero]; exact ⟨by decide, Rat.le_refl⟩
  | m + 1 => by
    obtain ⟨p0, p1⟩ := pow01 h0 h1 m
    rw [Rat.pow_succ]
    refine ⟨Rat.mul_nonneg p0 h0, ?_⟩
    have := Rat.mul_le_mul_of_nonneg_right p1 h0
    rw [Rat.one_mul] at this
    exact Rat.le_trans this h1
theorem under_oneR {A : Rat} (h : 1 + A ≠ 0) : fUnder A + fUnder A * A = 1 := by
  unfold fUnder
  have := Rat.mul_inv_cancel _ h
  rw [Rat.div_def]
  grind
theorem under01 {A : Rat} (h0 : 0 ≤ A) (hn : 1 + A ≠ 0) : 0 ≤ fUnder A ∧ fUnder A ≤ 1 := by
  have e := under_oneR hn
  have hU : 0 ≤ fUnder A := by
    by_cases h : 0 ≤ fUnder A
    · exact h
    · have h1 : 0 ≤ -fUnder A := by grind
      have h2 : (0 : Rat) ≤ 1 + A := by grind
      have h3 := Rat.mul_nonneg h1 h2
      grind
  refine ⟨hU, ?_⟩
  have := Rat.mul_nonneg hU h0
  grind
theorem fr_ref2 {A : Rat} (h0 : 0 ≤ A.num) (hlt : A.num.natAbs < A.den) (m : Nat) : frB fUnder m true A = (if ovQ (A ^ m) then ⟨#[]⟩ else outB (1 - fUnder A * A ^ m)) ∧ frE fUnder m true A = (if ovQ (A ^ m) then 5 else outE (1 - fUnder A * A ^ m)) := by
  have hA0 : 0 ≤ A := Rat.num_nonneg.1 h0
  have hA1 : A ≤ 1 := by
    rw [Rat.le_iff, show (1 : Rat).den = 1 from rfl, show (1 : Rat).num = 1 from rfl]
    omega
  have hn := one_plus h0
  obtain ⟨u0, u1⟩ := under01 hA0 hn
  obtain ⟨p0, p1⟩ := pow01 hA0 hA1 m
  have x0 := Rat.mul_nonneg u0 p0
  have x1 : fUnder A * A ^ m ≤ 1 := by
    have := Rat.mul_le_mul_of_nonneg_right u1 p0
    rw [Rat.one_mul] at this
    exact Rat.le_trans this p1
  have ho := rest_ov x0 x1
  unfold frB frE outB outE
  by_cases h1 : ovQ (A ^ m)
  · simp [h1]
  · by_cases h2 : ovQ (fUnder A * A ^ m)
    · simp [h1, h2, ho h2]
    · simp [h1, h2]
end Go.Proofs.YtikfgddgfddbaaaGreatDoor

/- Walks: the reference's Decides. -/
namespace Go.Proofs.YtikfgddgfddbaaaGreatDoor
open Go.RowKit
open Go.Lib (decDigits nDigits)
set_option linter.unusedVariables false
set_option linter.unusedSimpArgs false

/-- The ways of Decides. -/
def DcKey (N D K T : Nat) (v : Nat) (b : Bool) : Prop := (decide (ordN (N * T) (K * D) ≤ 0) = true ∧ v = 0 ∧ b = true) ∨ (decide (ordN (N * T) (K * D) ≤ 0) = false ∧ v = 1 ∧ b = decide (ordN (K * D + D) (N * T) ≤ 0))

theorem ord_le (a b : Nat) : decide (ordN a b ≤ 0) = decide (a ≤ b) := by
  unfold ordN
  split
  · rw [decide_eq_decide]; omega
  · split <;> (rw [decide_eq_decide]; omega)
theorem dc_key (N D K T : Nat) : DcKey N D K T (sdV N D K T) (sdB N D K T) := by
  unfold DcKey sdV sdB
  rw [ord_le, ord_le]
  by_cases h : N * T ≤ K * D
  · exact .inl ⟨by simpa using h, if_pos h, by simp [h]⟩
  · exact .inr ⟨by simpa using h, if_neg h, by simp [h]⟩

set_option maxRecDepth 100000 in
set_option maxHeartbeats 2000000 in
theorem r4_Decides0 (w : World) (m : Bool) (N D : Value) (n d v : Nat) (b : Bool) (s : ByteArray) (hs : s.size ≤ 100000) (hN : IsN .i64 w N n) (hD : IsN .i64 w D d)
    (l1 : (limbs n).length ≤ 100000) (l2 : (limbs d).length ≤ 100000) (key : DcKey n d (bv s.data.toList) (2 ^ s.size) v b) :
    Calls Tryz.prog 105 #[.agg #[.bool m, N, D], .string s] w fun e w' => e = .returned (.tuple #[.int .i64 v, .bool b]) ∧ Below w.heap.size w w' := by
  have RV := fun V => hid (r3_Value V s hs)
  have RT := fun V => hid (r3_Two V s.size hs)
  have hsl : s.data.toList.length = s.size := by simp
  have bl := bv_lt (l := s.data.toList) s.data.toList.length (Nat.le_refl _)
  rw [List.take_length, hsl] at bl
  obtain ⟨K, hK⟩ : ∃ K, bv s.data.toList = K := ⟨_, rfl⟩
  obtain ⟨T, hT⟩ : ∃ T, 2 ^ s.size = T := ⟨_, rfl⟩
  have lK : (limbs K).length ≤ 100000 := by rw [← hK]; exact Nat.le_trans (limbs_two bl) hs
  have lT : (limbs T).length ≤ 100001 := by rw [← hT]; exact Nat.le_trans (limbs_two (k := s.size + 1) (Nat.pow_lt_pow_right (by omega) (by omega))) (by omega)
  rw [hK] at RV key
  rw [hT] at RT key
  have L1 := hid (Nat.le_trans l1 (show 100000 ≤ 1000000 by omega))
  have L2 := hid (Nat.le_trans l2 (show 100000 ≤ 1000000 by omega))
  have L3 := hid (Nat.le_trans lK (show 100000 ≤ 1000000 by omega))
  have L4 := hid (Nat.le_trans lT (show 100001 ≤ 1000000 by omega))
  have L5 := hid (Nat.le_trans (limbs_mul lK l2) (show 100000 + 100000 ≤ 1000000 by omega))
  clear hsl bl hK hT lK lT l1 l2 hs
  have HN := hid hN; have HD := hid hD
  obtain ⟨a1, c1, rfl, _⟩ := hN.openI
  obtain ⟨a2, c2, rfl, _⟩ := hD.openI
  obtain ⟨k1, hk1⟩ : ∃ k, (limbs n).length = k := ⟨_, rfl⟩
  obtain ⟨k2, hk2⟩ : ∃ k, (limbs d).length = k := ⟨_, rfl⟩
  rw [hk1] at HN ⊢
  rw [hk2] at HD ⊢
  clear hN hD hk1 hk2
  unfold DcKey at key
  obtain ⟨t, ht⟩ : ∃ t, ordN (n * T) (K * d) = t := ⟨_, rfl⟩
  obtain ⟨u, hu⟩ : ∃ u, ordN (K * d + d) (n * T) = u := ⟨_, rfl⟩
  rw [ht, hu] at key
  have HT := hid ht; have HU := hid hu
  clear ht hu
  obtain ⟨W, hW⟩ : ∃ W, w.alloc (.cells #[.bool m, .slice a1 k1 c1, .slice a2 k2 c2] 51) = W := ⟨_, rfl⟩
  have X0 : Below w.heap.size w W := by rw [← hW]; exact (Below.refl _ _).alloc (Nat.le_refl _) _
  have Y0 : Blk W w.heap.size #[.bool m, .slice a1 k1 c1, .slice a2 k2 c2] 51 := by rw [← hW]; exact Blk.new w _ _
  have HX0 := hid X0; have HY0 := hid Y0
  have XN := hid (HN.out.call X0); have XD := hid (HD.out.call X0)
  have HW := hid hW
  clear X0 Y0 hW HN HD
  rcases key with ⟨key, rfl, rfl⟩ | ⟨key, rfl, rfl⟩
  · go_enter Tryz.func105, Tryz.ntmps105
    go_wp2_with fail
    rw [HW.out]
    refine (RV _).out.mono ?_; rintro e w1 ⟨⟨v1, rfl, hv1⟩, hb1⟩
    have bb1 := hid hb1; have V1 := hid hv1
    have g1 := (HY0.out.call hb1).cell 1
    simp at g1
    clear hv1 hb1
    go_wp2_with fail
    have K1 : Hid (∀ w', Below w1.heap.size w1 w' → w'.cell? ⟨w.heap.size, 1, none⟩ = some (.slice a1 k1 c1)) := fun w' hb => by
      have := (HY0.out.call (bnext bb1.out hb)).cell 1
      simpa using this
    go_region_held3 (fun w' => w'.cell? ⟨w.heap.size, 1, none⟩ = some (.slice a1 k1 c1))
      (first
        | exact K1.out _ (Below.refl _ _).drew
        | exact K1.out _ cc3.out
        | exact K1.out _ cc2.out)
      (first
        | (go_at_call 155; refine (RT _).out.mono ?_; rintro e w2 ⟨⟨v2, rfl, hv2⟩, hb2⟩; have cc2 := hid (bnext (Below.refl _ _).drew hb2); have V2 := hid hv2)
        | (go_at_call 78; refine (r1_Times _ _ _ n T (XN.out.call (bnext bb1.out cc2.out)) V2.out L1.out L4.out).mono ?_; rintro e w3 ⟨⟨v3, rfl, hv3⟩, hb3⟩; have cc3 := hid (bnext cc2.out hb3); have V2' := hid hv3))
    have bb3 := hid (bnext bb1.out cc3.out)
    have V1' := hid (V1.out.call cc3.out)
    have g3 := (HY0.out.call bb3.out).cell 2
    simp at g3
    clear hv2 hb2 hv3 hb3 V2 V1 cc2 cc3 K1 g1
    go_wp2_with fail
    refine (r1_Times _ _ _ K d V1'.out (XD.out.call bb3.out) L3.out L2.out).mono ?_; rintro e w4 ⟨⟨v4, rfl, hv4⟩, hb4⟩
    have bb4 := hid (bnext bb3.out hb4); have V3 := hid hv4
    have V2q := hid (V2'.out.call hb4)
    clear hv4 hb4 g3 V2'
    have V2' := V2q
    clear V2q
    go_wp2_with fail
    refine (r1_Order _ _ _ _ _ V2'.out V3.out).mono ?_; rintro e w5 ⟨rfl, hb5⟩
    have bb5 := hid (bnext bb4.out hb5)
    rw [HT.out]
    go_wp2_with fail
    go_ret2
    exact ⟨rfl, bnext HX0.out bb5.out⟩
  · go_enter Tryz.func105, Tryz.ntmps105
    go_wp2_with fail
    rw [HW.out]
    refine (RV _).out.mono ?_; rintro e w1 ⟨⟨v1, rfl, hv1⟩, hb1⟩
    have bb1 := hid hb1; have V1 := hid hv1
    have g1 := (HY0.out.call hb1).cell 1
    simp at g1
    clear hv1 hb1
    go_wp2_with fail
    have K1 : Hid (∀ w', Below w1.heap.size w1 w' → w'.cell? ⟨w.heap.size, 1, none⟩ = some (.slice a1 k1 c1)) := fun w' hb => by
      have := (HY0.out.call (bnext bb1.out hb)).cell 1
      simpa using this
    go_region_held3 (fun w' => w'.cell? ⟨w.heap.size, 1, none⟩ = some (.slice a1 k1 c1))
      (first
        | exact K1.out _ (Below.refl _ _).drew
        | exact K1.out _ cc3.out
        | exact K1.out _ cc2.out)
      (first
        | (go_at_call 155; refine (RT _).out.mono ?_; rintro e w2 ⟨⟨v2, rfl, hv2⟩, hb2⟩; have cc2 := hid (bnext (Below.refl _ _).drew hb2); have V2 := hid hv2)
        | (go_at_call 78; refine (r1_Times _ _ _ n T (XN.out.call (bnext bb1.out cc2.out)) V2.out L1.out L4.out).mono ?_; rintro e w3 ⟨⟨v3, rfl, hv3⟩, hb3⟩; have cc3 := hid (bnext cc2.out hb3); have V2' := hid hv3))
    have bb3 := hid (bnext bb1.out cc3.out)
    have V1' := hid (V1.out.call cc3.out)
    have g3 := (HY0.out.call bb3.out).cell 2
    simp at g3
    clear hv2 hb2 hv3 hb3 V2 V1 cc2 cc3 K1 g1
    go_wp2_with fail
    refine (r1_Times _ _ _ K d V1'.out (XD.out.call bb3.out) L3.out L2.out).mono ?_; rintro e w4 ⟨⟨v4, rfl, hv4⟩, hb4⟩
    have bb4 := hid (bnext bb3.out hb4); have V3 := hid hv4
    have V2q := hid (V2'.out.call hb4)
    clear hv4 hb4 g3 V2'
    have V2' := V2q
    clear V2q
    go_wp2_with fail
    refine (r1_Order _ _ _ _ _ V2'.out V3.out).mono ?_; rintro e w5 ⟨rfl, hb5⟩
    have bb5 := hid (bnext bb4.out hb5)
    rw [HT.out]
    have g5 := (HY0.out.call bb5.out).cell 2
    simp at g5
    have V2'' := hid (V2'.out.call hb5); have V3'' := hid (V3.out.call hb5)
    clear hb5
    go_wp2_with fail
    refine (r1_Plus _ _ _ _ _ V3''.out (XD.out.call bb5.out) L5.out L2.out).mono ?_; rintro e w6 ⟨⟨v6, rfl, hv6⟩, hb6⟩
    have bb6 := hid (bnext bb5.out hb6); have V6 := hid hv6; have W2 := hid (V2''.out.call hb6)
    clear hv6 hb6
    go_wp2_with fail
    refine (r1_Order _ _ _ _ _ V6.out W2.out).mono ?_; rintro e w7 ⟨rfl, hb7⟩
    have bb7 := hid (bnext bb6.out hb7)
    clear hb7
    rw [HU.out]
    go_wp2_with fail
    go_ret2
    exact ⟨rfl, bnext HX0.out bb7.out⟩

theorem r4_Decides (w : World) (v : Value) (q : Rat) (s : ByteArray) (hs : s.size ≤ 100000) (h : IsQ .i64 w v q) (l1 : (limbs q.num.natAbs).length ≤ 100000) (l2 : (limbs q.den).length ≤ 100000) :
    Calls Tryz.prog 105 #[v, .string s] w fun e w' => e = .returned (.tuple #[.int .i64 (sdV q.num.natAbs q.den (bv s.data.toList) (2 ^ s.size) : Nat), .bool (sdB q.num.natAbs q.den (bv s.data.toList) (2 ^ s.size))]) ∧ Below w.heap.size w w' := by
  obtain ⟨N, D, rfl, hN, hD⟩ := h.ex
  exact r4_Decides0 w _ N D _ _ _ _ s hs hN hD l1 l2 (dc_key _ _ _ _)
end Go.Proofs.YtikfgddgfddbaaaGreatDoor

/- Walks: the reference's Toss. -/
namespace Go.Proofs.YtikfgddgfddbaaaGreatDoor
open Go.RowKit
open Go.Lib (decDigits nDigits)
set_option linter.unusedVariables false
set_option linter.unusedSimpArgs false

/-- What the rounds of Toss keep. -/
structure TsI (N D : Nat) (L : List UInt8) (i : Nat) : Prop where
  le : i ≤ L.length + 1
  eq : i ≤ L.length → tossAt N D L (bv (L.take i)) (2 ^ i) i = tossAt N D L 0 1 0
  last : i = L.length + 1 → tossAt N D L 0 1 0 = (false, 0, L.length)

theorem TsI.start (N D : Nat) (L : List UInt8) : TsI N D L 0 := ⟨by omega, fun _ => by simp [bv], fun h => by omega⟩
theorem TsI.next {N D : Nat} {L : List UInt8} {i : Nat} (h : TsI N D L i) (hi : i ≤ L.length) (hn : sdB N D (bv (L.take i)) (2 ^ i) = false) : TsI N D L (i + 1) := by
  refine ⟨by omega, fun hlt => ?_, fun he => ?_⟩
  · have := h.eq hi
    rw [tossAt_next hn (by omega)] at this
    rw [← this, bv_take (l := L) (i := i) (b := L[i]) (List.getElem?_eq_getElem (by omega)), Nat.pow_succ, Nat.mul_two]
  · have := h.eq hi
    obtain rfl : i = L.length := by omega
    rw [tossAt_late hn] at this
    exact this.symm
theorem TsI.done {N D : Nat} {L : List UInt8} {i : Nat} (h : TsI N D L i) (hi : i ≤ L.length) (hn : sdB N D (bv (L.take i)) (2 ^ i) = true) : tossAt N D L 0 1 0 = (true, sdV N D (bv (L.take i)) (2 ^ i), i) := by
  rw [← h.eq hi, tossAt_done hn]

theorem IsQ.keep2 {k : IntKind} {w w' : World} {v : Value} {q : Rat} (h : IsQ k w v q) (hb : Below w.heap.size w w') : IsQ k w' v q := h.call hb

/-- A coin as a value. -/
def coinV (x : Bool × Nat × Nat) : Value := .agg #[.bool x.1, .int .i64 (x.2.1 : Nat), .int .i64 (x.2.2 : Nat)]

theorem take_ext (s : ByteArray) {i : Nat} (h : i ≤ s.size) : (s.extract 0 i).data.toList = s.data.toList.take i ∧ (s.extract 0 i).size = i := by
  refine ⟨by rw [extract_list]; simp, by simp; omega⟩

set_option maxRecDepth 100000 in
set_option maxHeartbeats 2000000 in
theorem r4_Toss (w : World) (v : Value) (q : Rat) (s : ByteArray) (hs : s.size ≤ 100000) (h : IsQ .i64 w v q) (l1 : (limbs q.num.natAbs).length ≤ 100000) (l2 : (limbs q.den).length ≤ 100000) :
    Calls Tryz.prog 64 #[v, .string s] w fun e w' => e = .returned (coinV (tossAt q.num.natAbs q.den s.data.toList 0 1 0)) ∧ Below w.heap.size w w' := by
  obtain ⟨m, a, n, c, a', n', c', rfl⟩ := h.qv
  have RE := fun V i (hi : i ≤ s.size) (hV : IsQ .i64 V (.agg #[.bool m, .slice a n c, .slice a' n' c']) q) => hid (r4_Decides V (.agg #[.bool m, .slice a n c, .slice a' n' c']) q (s.extract 0 i) (by rw [(take_ext s hi).2]; omega) hV l1 l2)
  obtain ⟨N, hN⟩ : ∃ N, q.num.natAbs = N := ⟨_, rfl⟩
  obtain ⟨D, hD⟩ : ∃ D, q.den = D := ⟨_, rfl⟩
  obtain ⟨L, hL⟩ : ∃ L, s.data.toList = L := ⟨_, rfl⟩
  have hlen := hid (show L.length = s.size from by rw [← hL]; simp)
  have hx := hid (fun i (hi : i ≤ s.size) => take_ext s hi)
  rw [hL] at hx
  simp only [hN, hD] at RE
  rw [hN, hD, hL]
  have HQ := hid h
  clear h l1 l2 hN hD hL
  have x0 := hid ((Blk.new w #[.bool m, .slice a n c, .slice a' n' c'] 51).alloc (.cells #[.bool false, .int .i64 0, .int .i64 0] 26))
  have x1 := hid (Blk.made (w.alloc (.cells #[.bool m, .slice a n c, .slice a' n' c'] 51)) #[.bool false, .int .i64 0, .int .i64 0] 26 (n := w.heap.size + 1) (by simp))
  have b1 := hid (((Below.refl w.heap.size w).alloc (Nat.le_refl _) (.cells #[.bool m, .slice a n c, .slice a' n' c'] 51)).alloc (by simp) (.cells #[.bool false, .int .i64 0, .int .i64 0] 26))
  go_enter Tryz.func64, Tryz.ntmps64
  go_wp2_with fail
  go_loopw [5] (fun ii wr => ∃ i : Nat, ii = .int .i64 i ∧ Hid (TsI N D L i) ∧ i ≤ s.size + 1 ∧ Hid (Blk wr w.heap.size #[.bool m, .slice a n c, .slice a' n' c'] 51) ∧ Hid (Blk wr (w.heap.size + 1) #[.bool false, .int .i64 0, .int .i64 0] 26) ∧ Hid (Below w.heap.size w wr)) (fun ii wr => s.size + 1 - (intOf ii).toNat)
  case atStart => exact ⟨0, rfl, TsI.start _ _ _, by omega, x0, x1, b1⟩
  case round =>
    obtain ⟨i, rfl, hI, hi, k0, k1, hB⟩ := hrel
    by_cases hle : i ≤ s.size
    · have q0 : decide (i ≤ s.size) = true := by simpa using hle
      have RI := fun V hV => RE V i hle hV
      obtain ⟨ex1, ex2⟩ := hx.out i hle
      simp only [ex1, ex2] at RI
      obtain ⟨vv, hvv⟩ : ∃ x, sdV N D (bv (L.take i)) (2 ^ i) = x := ⟨_, rfl⟩
      obtain ⟨bb, hbb⟩ : ∃ x, sdB N D (bv (L.take i)) (2 ^ i) = x := ⟨_, rfl⟩
      simp only [hvv, hbb] at RI
      have HVV := hid hvv; have HBB := hid hbb
      have iq : Hid (IsQ .i64 wr (.agg #[.bool m, .slice a n c, .slice a' n' c']) q) := HQ.out.keep2 hB.out
      have d0 := k0.out.cell 0
      have d1 := k0.out.cell 1
      have d2 := k0.out.cell 2
      simp at d0 d1 d2
      clear ex1 ex2 hvv hbb
      have KK : Hid (∀ w', Below wr.heap.size wr w' → w'.cell? ⟨w.heap.size, 0, none⟩ = some (.bool m) ∧ w'.cell? ⟨w.heap.size, 1, none⟩ = some (.slice a n c) ∧ w'.cell? ⟨w.heap.size, 2, none⟩ = some (.slice a' n' c')) := fun w' hb => by
        have y := k0.out.call hb
        exact ⟨y.cell 0, y.cell 1, y.cell 2⟩
      go_wp2_with fail
      go_region_held3 (fun w' => w'.cell? ⟨w.heap.size, 0, none⟩ = some (.bool m) ∧ w'.cell? ⟨w.heap.size, 1, none⟩ = some (.slice a n c) ∧ w'.cell? ⟨w.heap.size, 2, none⟩ = some (.slice a' n' c'))
        (first
          | exact KK.out _ (Below.refl _ _).drew
          | exact KK.out _ cc2.out)
        (first
          | (go_at_call 105; refine (RI _ (iq.out.call (Below.refl _ _).drew)).out.mono ?_; rintro e w2 ⟨rfl, hb2⟩; have cc2 := hid (bnext (Below.refl _ _).drew hb2)))
      have B2 := hid (bnext hB.out cc2.out); have k02 := hid (k0.out.call cc2.out); have k12 := hid (k1.out.call cc2.out)
      clear hb2 cc2 KK d0 d1 d2 RI iq
      cases bb
      · have NX := hid (hI.out.next (by rw [hlen.out]; exact hle) HBB.out)
        go_wp2_with fail
        go_roundw
        case rel => exact ⟨i + 1, by go_num, NX, by omega, k02, k12, B2⟩
        case measure => simp [intOf] <;> omega
      · have DN := hid (hI.out.done (by rw [hlen.out]; exact hle) HBB.out)
        rw [HVV.out] at DN
        have r0 := k12.out.cell 0
        have r1 := k12.out.cell 1
        have r2 := k12.out.cell 2
        have f0 := k12.out.free 0
        have f1 := k12.out.free 1
        have f2 := k12.out.free 2
        simp at r0 r1 r2
        go_wp2_with fail
        have s3 := ((k12.out.set 0 (.bool true)).set 1 (.int .i64 (vv : Nat))).set 2 (.int .i64 (i : Nat))
        have z0 := s3.cell 0
        have z1 := s3.cell 1
        have z2 := s3.cell 2
        simp at z0 z1 z2
        refine bodyPost_ret (v := .agg #[.bool true, .int .i64 (vv : Nat), .int .i64 (i : Nat)]) (by simp [results, Tryz.results64, go_sem, z0, z1, z2]) rfl ⟨by rw [DN.out]; rfl, ?_⟩
        exact ((B2.out.setCell (Nat.le_succ _) _).setCell (Nat.le_succ _) _).setCell (Nat.le_succ _) _
    · obtain rfl : i = s.size + 1 := by omega
      have LS := hid (hI.out.last (by rw [hlen.out]))
      have q0 : decide (s.size + 1 ≤ s.size) = false := by simp
      have r0 := k1.out.cell 0
      have r1 := k1.out.cell 1
      have r2 := k1.out.cell 2
      have f0 := k1.out.free 0
      have f1 := k1.out.free 1
      have f2 := k1.out.free 2
      simp at r0 r1 r2
      go_wp2_with fail
      have s3 := ((k1.out.set 0 (.bool false)).set 1 (.int .i64 0)).set 2 (.int .i64 (s.size : Nat))
      have z0 := s3.cell 0
      have z1 := s3.cell 1
      have z2 := s3.cell 2
      simp at z0 z1 z2
      refine bodyPost_ret (v := .agg #[.bool false, .int .i64 0, .int .i64 (s.size : Nat)]) (by simp [results, Tryz.results64, go_sem, z0, z1, z2]) rfl ⟨by rw [LS.out, hlen.out]; rfl, ?_⟩
      exact ((hB.out.setCell (Nat.le_succ _) _).setCell (Nat.le_succ _) _).setCell (Nat.le_succ _) _
end Go.Proofs.YtikfgddgfddbaaaGreatDoor

/- The walk of GeomCoins. -/
namespace Go.Proofs.YtikfgddgfddbaaaGreatDoor
open Go.RowKit Go.Shelf
open Go.Lib (decDigits nDigits)
set_option linter.unusedVariables false
set_option linter.unusedSimpArgs false

theorem s1_late {N D : Nat} {l : List UInt8} {p n : Nat} (hd : (coinF N D l p).1 = false) : s1 N D l p n = none := by
  unfold s1; rw [sr_late (Nat.le_refl 1) hd]
theorem s1_more {N D : Nat} (h : N < D) {l : List UInt8} {p n : Nat} (hp : p ≤ l.length) (hd : (coinF N D l p).1 = true) (hv : (coinF N D l p).2.1 = 1) : s1 N D l p n = s1 N D l (p + (coinF N D l p).2.2) (n + 1) := by
  unfold s1; rw [sr_one h (Nat.le_refl 1) hp hd hv]
theorem s1_stop {N D : Nat} {l : List UInt8} {p n : Nat} (hd : (coinF N D l p).1 = true) (hv : ¬ (coinF N D l p).2.1 = 1) : s1 N D l p n = some (n, p + (coinF N D l p).2.2) := by
  unfold s1; rw [sr_stop hd hv]; rfl

set_option maxRecDepth 100000 in
set_option maxHeartbeats 1000000 in
theorem gc_big (w : World) (a b : ByteArray) (hab : 100 < a.size ∨ (a.size ≤ 100 ∧ 256 < b.size)) (hL : Lay w) :
    Calls Tryz.prog 3 #[.string a, .string b] w fun e w' => e = .returned (.bool true) ∧ Below w.heap.size w w' := by
  have HV := fun V hV => hid (w_lives V hV)
  have b0 := hid (Below.refl w.heap.size w)
  have HL := hid hL
  clear hL
  rcases hab with h | ⟨h, h2⟩
  · have q0 : decide ((100 : Int) < (a.size : Int)) = true := by simp; omega
    clear h
    go_enter Tryz.func3, Tryz.ntmps3
    go_wp2_with fail
    refine (HV _ HL.out).out.mono ?_; rintro e w1 ⟨rfl, hb1⟩
    have b1 := hid hb1; clear hb1
    go_wp2_with fail
    go_ret
    exact ⟨rfl, b1.out⟩
  · have q0 : decide ((100 : Int) < (a.size : Int)) = false := by simp; omega
    have q1 : decide ((256 : Int) < (b.size : Int)) = true := by simp; omega
    clear h h2
    go_enter Tryz.func3, Tryz.ntmps3
    go_wp2_with fail
    refine (HV _ HL.out).out.mono ?_; rintro e w1 ⟨rfl, hb1⟩
    have b1 := hid hb1; clear hb1
    go_wp2_with fail
    go_ret
    exact ⟨rfl, b1.out⟩

set_option maxRecDepth 100000 in
set_option maxHeartbeats 1000000 in
theorem gc_bad (w : World) (a b : ByteArray) (ha : a.size ≤ 100) (hb : b.size ≤ 256) (he : gE a b ≠ 0) (hL : Lay w) :
    Calls Tryz.prog 3 #[.string a, .string b] w fun e w' => e = .returned (.bool true) ∧ Below w.heap.size w w' := by
  have HV := fun V hV => hid (w_lives V hV)
  have H1 := fun V hV => hid (g_One V a b (by omega) (by omega) hV)
  have H2 := fun V hV => hid (g_Two V a b (by omega) (by omega) hV)
  rw [oT, if_neg he] at H1
  rw [wT, if_neg he] at H2
  simp only [d3] at H1 H2
  obtain ⟨x, hx⟩ : ∃ x, gE a b = x := ⟨_, rfl⟩
  rw [hx] at H1 H2 he
  have x0 : (x == 0) = false := by simpa using he
  have x1 : (x != 0) = true := by simpa using he
  have b0 := hid (Below.refl w.heap.size w)
  have HL := hid hL
  have q0 : decide ((100 : Int) < (a.size : Int)) = false := by simp; omega
  have q1 : decide ((256 : Int) < (b.size : Int)) = false := by simp; omega
  clear hL hx ha hb he
  go_enter Tryz.func3, Tryz.ntmps3
  go_wp2_with fail
  refine (HV _ HL.out).out.mono ?_; rintro e w1 ⟨rfl, hb1⟩
  have b1 := hid hb1; clear hb1
  go_wp2_with fail
  refine (H1 _ (HL.out.call b1.out)).out.mono ?_; rintro e w2 ⟨rfl, hb2⟩
  have b2 := hid (bnext b1.out hb2); clear hb2
  have X1 := hid (Blk.new w2 #[.bool false, .int .i64 0, .int .i64 0] 26)
  have B2 := hid (b2.out.alloc b2.out.size (.cells #[.bool false, .int .i64 0, .int .i64 0] 26))
  go_wp2_with fail
  refine (H2 _ (HL.out.call B2.out)).out.mono ?_; rintro e w3 ⟨rfl, hb3⟩
  have b3 := hid (bnext B2.out hb3); have y1 := hid (X1.out.call hb3); clear hb3
  have X2 := hid (Blk.new w3 #[.bool false, .int .i64 0, .int .i64 0] 26)
  have B3 := hid (b3.out.alloc b3.out.size (.cells #[.bool false, .int .i64 0, .int .i64 0] 26))
  have Y1 := hid (y1.out.alloc (.cells #[.bool false, .int .i64 0, .int .i64 0] 26))
  have r0 := Y1.out.cell 0
  have r1 := Y1.out.cell 1
  have r2 := Y1.out.cell 2
  have s0 := X2.out.cell 0
  have s1 := X2.out.cell 1
  have s2 := X2.out.cell 2
  simp at r0 r1 r2 s0 s1 s2
  go_wp2_with fail
  go_ret
  exact ⟨rfl, B3.out⟩
end Go.Proofs.YtikfgddgfddbaaaGreatDoor
