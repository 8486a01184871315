/- Texts that the proof rests on, merged: R1m, Num2, R1n, R1o, R1c, L14, C1a, R3a, QT, G1, L1, Seq, L6, L12, Last, L13, L15, N1. -/
import Derived.Test.YtccalhlhdiapiaaGreatDoorKp1
import Derived.WalkSpells
import Derived.Laws.Concat
import Derived.Lib.IndexMore
import Derived.Lib.Strings
import Derived.OwnWalk
import Derived.IntWalk
import Derived.RangeFuncNested
import Derived.RangeFuncBound
import Derived.RangeFuncCalls
import Derived.RangeFuncLeaves
import Derived.Sort.BigQuietIn
import Derived.RangeFuncBox
import Derived.Shelf.Abstract
import Derived.Shelf.RegionOpen
import Derived.OwnWalkIn
import Derived.TacticsInMore
import Derived.LoopNIn
import Derived.LoopIn
import Derived.Orders
import Derived.WalkKit
import Derived.OrdersHeld
namespace Go.Proofs.YtccalhlhdiapiaaGreatDoor
open Go.RowKit
open Go.Lib (decDigits nDigits)
set_option linter.unusedVariables false
set_option maxRecDepth 100000 in
set_option maxHeartbeats 1000000 in
theorem r1_Check (w : World) (s : ByteArray) (hs : s.size ≤ 9223372036854775807) : Calls Tryz.prog 83 #[.string s] w fun e w' => e = .returned (.int .i64 (errN s.data.toList)) ∧ w = w' := by
  have hsl := hid (show s.data.toList.length = s.size from by simp)
  by_cases h0 : s.size = 0
  · have hnil : s.data.toList = [] := List.eq_nil_of_length_eq_zero (by rw [hsl.out, h0])
    obtain rfl : s = ⟨#[]⟩ := by
      cases s with
      | mk d => simp at hnil; rw [hnil]
    clear hsl h0 hnil hs
    go_enter Tryz.func83, Tryz.ntmps83
    go_wp2_with fail
    go_ret
    exact ⟨ret_int (by rw [errN_bad]; exact fun h => h.1 rfl), rfl⟩
  · have hpos : 0 < s.size := by omega
    have hne : s.data.toList.isEmpty = false := by
      rw [List.isEmpty_eq_false_iff]
      intro e
      have := hsl.out; rw [e] at this; simp at this; omega
    have hn : ¬ s.toList = [] := by rw [Go.ByteArray.toList_eq]; intro e; rw [e] at hne; cases hne
    have hn2 : s.toList.isEmpty = false := by rw [Go.ByteArray.toList_eq]; exact hne
    have hb0 := hid (byte_get hpos)
    clear hne
    by_cases hz : s[0] = 48 ∧ 1 < s.size
    · have q1 : ((s[0].toNat : Int) == 48) = true := by rw [hz.1]; rfl
      have q2 : decide ((1 : Int) < (s.size : Int)) = true := by simp; omega
      have hbad := hid (show ¬ isForm s.data.toList from fun h => by
        rcases h.2.1 with h1 | h1
        · have := congrArg List.length h1
          rw [hsl.out] at this; simp at this; omega
        · rw [List.head?_eq_getElem?, hb0.out, hz.1] at h1
          exact h1 rfl)
      clear hz
      go_enter Tryz.func83, Tryz.ntmps83
      go_wp2_with fail
      go_ret
      exact ⟨ret_int (by rw [errN_bad hbad.out]), rfl⟩
    · have hform : allDig s.data.toList → isForm s.data.toList := fun hd => by
        refine ⟨fun e => by have := hsl.out; rw [e] at this; simp at this; omega, ?_, hd⟩
        by_cases h48 : s[0] = 48
        · left
          have h1 : s.data.toList.length = 1 := by
            have : ¬ 1 < s.size := fun h => hz ⟨h48, h⟩
            rw [hsl.out]; omega
          match hm : s.data.toList, h1 with
          | [c], _ =>
            have := hb0.out
            rw [hm] at this
            simp at this
            rw [this, h48]
        · right
          rw [List.head?_eq_getElem?, hb0.out]
          simpa using h48
      have HF := hid hform
      have hI : (((s[0].toNat : Int) == 48) = false ∧ decide ((1 : Int) < (s.size : Int)) = decide ((1 : Int) < (s.size : Int))) ∨ (((s[0].toNat : Int) == 48) = true ∧ decide ((1 : Int) < (s.size : Int)) = false) := by
        by_cases h48 : s[0] = 48
        · right
          have : ¬ 1 < s.size := fun h => hz ⟨h48, h⟩
          refine ⟨by rw [h48]; rfl, by simp; omega⟩
        · left
          refine ⟨?_, rfl⟩
          rw [beq_eq_false_iff_ne]
          intro e
          refine h48 ?_
          have : s[0].toNat = (48 : UInt8).toNat := by simp; omega
          exact UInt8.toNat_inj.1 this
      clear hform hz
      rcases hI with ⟨q1, -⟩ | ⟨q1, q2⟩
      all_goals
        go_enter Tryz.func83, Tryz.ntmps83
        go_wp2_with fail
        clear q1
        go_loop [3] (fun ii => ∃ i : Nat, ii = .int .i64 i ∧ i ≤ s.size ∧ Hid (∀ (j : Nat) (b : UInt8), j < i → s.data.toList[j]? = some b → isDig b = true)) (fun ii => s.size - (intOf ii).toNat)
        case atStart => exact ⟨0, rfl, Nat.zero_le _, fun j b hj => absurd hj (by omega)⟩
        case round =>
          obtain ⟨i, rfl, hi, hI⟩ := hrel
          by_cases hlt : i < s.size
          · have hb := hid (byte_get hlt)
            have hbad : ¬ isDig s[i] = true → ¬ isForm s.data.toList := fun h hf => h (hf.2.2 _ (List.mem_of_getElem? hb.out))
            by_cases c1 : s[i].toNat < 48
            · have q1 : decide ((s[i].toNat : Int) < 48) = true := by simp; omega
              have hB := hid (hbad (fun e => by have := isDig_iff.1 e; omega))
              clear hbad c1
              go_wp2_with fail
              go_ret
              exact ⟨ret_int (by rw [errN_bad hB.out]), rfl⟩
            · by_cases c2 : 57 < s[i].toNat
              · have q1 : decide ((s[i].toNat : Int) < 48) = false := by simp; omega
                have q2 : decide ((57 : Int) < (s[i].toNat : Int)) = true := by simp; omega
                have hB := hid (hbad (fun e => by have := isDig_iff.1 e; omega))
                clear hbad c1 c2
                go_wp2_with fail
                go_ret
                exact ⟨ret_int (by rw [errN_bad hB.out]), rfl⟩
              · have q1 : decide ((s[i].toNat : Int) < 48) = false := by simp; omega
                have q2 : decide ((57 : Int) < (s[i].toNat : Int)) = false := by simp; omega
                have hD := hid (isDig_iff.2 (show 48 ≤ s[i].toNat ∧ s[i].toNat ≤ 57 by omega))
                clear hbad c1 c2
                go_wp2_with fail
                go_round
                case rel => exact ⟨i + 1, by go_num, by omega, fun j b hj hjb => by
                  by_cases e : j = i
                  · subst e; have := hb.out; rw [hjb] at this; cases this; exact hD.out
                  · exact hI.out j b (by omega) hjb⟩
                case measure => simp [intOf] <;> omega
          · obtain rfl : i = s.size := by omega
            have hF := hid (HF.out fun b hb => by
              obtain ⟨j, hj⟩ := List.getElem?_of_mem hb
              exact hI.out j b (by have := (List.getElem?_eq_some_iff.1 hj).1; rw [hsl.out] at this; exact this) hj)
            by_cases hlong : 4000 < s.size
            · have q3 : decide ((4000 : Int) < (s.size : Int)) = true := by simp; omega
              have HL := hid hlong; clear hlong
              go_wp2_with fail
              go_ret
              exact ⟨ret_int (by rw [errN_long hF.out (by rw [hsl.out]; exact HL.out)]), rfl⟩
            · have q3 : decide ((4000 : Int) < (s.size : Int)) = false := by simp; omega
              have HL := hid hlong; clear hlong
              go_wp2_with fail
              go_ret
              exact ⟨ret_int (by rw [errN_ok hF.out (by rw [hsl.out]; exact HL.out)]), rfl⟩
end Go.Proofs.YtccalhlhdiapiaaGreatDoor
namespace Go.Proofs.YtccalhlhdiapiaaGreatDoor
open Go.RowKit
open Go.Lib (decDigits nDigits)
theorem limbs_digits {n K : Nat} (h : nDigits n ≤ 9 * K) : (limbs n).length ≤ K := by
  refine limbs_length_le.2 ?_
  have h1 := Go.Lib.lt_pow_nDigits n
  have h2 : 10 ^ nDigits n ≤ 10 ^ (9 * K) := Nat.pow_le_pow_right (by omega) h
  rw [Nat.pow_mul] at h2
  exact Nat.lt_of_lt_of_le h1 h2
theorem limbs_of_digits {n : Nat} (h : nDigits n ≤ 4000) : (limbs n).length ≤ 445 := limbs_digits (by omega)
theorem limbs_mul {a b p q : Nat} (ha : (limbs a).length ≤ p) (hb : (limbs b).length ≤ q) : (limbs (a * b)).length ≤ p + q := by
  refine limbs_length_le.2 ?_
  have h1 := limbs_length_le.1 ha
  have h2 := limbs_length_le.1 hb
  rw [Nat.pow_add]
  exact Nat.mul_lt_mul'' h1 h2
theorem IsN.cast {k : IntKind} {w : World} {v : Value} {m n : Nat} (h : IsN k w v m) (e : m = n) : IsN k w v n := e ▸ h
theorem nDigits_one : nDigits 1 = 1 := Go.Lib.nDigits_small (by omega)
theorem nDigits_zero : nDigits 0 = 1 := Go.Lib.nDigits_small (by omega)
end Go.Proofs.YtccalhlhdiapiaaGreatDoor
namespace Go.Proofs.YtccalhlhdiapiaaGreatDoor
open Go.RowKit
open Go.Lib (decDigits nDigits)
set_option linter.unusedVariables false
theorem r1_Write (w : World) (v : Value) (n : Nat) (h : IsN .i64 w v n) (hl : (limbs n).length ≤ 1000000) : Calls Tryz.prog 43 #[v] w fun e w' => e = .returned (numV n) ∧ Below w.heap.size w w' := by
  rcases Nat.eq_zero_or_pos n with rfl | h0
  · exact r1_Write_zero w v h
  · exact r1_Write_pos w v n h h0 hl
theorem r1_Read_num (w : World) (a : Nat) (h : nDigits a ≤ 9000) : Calls Tryz.prog 40 #[.string (numB a)] w fun e w' => RetN .i64 a e w' ∧ Below w.heap.size w w' := by
  have := r1_Read w (numB a) (by rw [numB_list]; exact allDig_dec a) (by rw [numB_size]; omega)
  rwa [numB_list, dv_dec] at this
theorem r1_Read_numF (w : World) (a : Nat) (h : nDigits a ≤ 9000) : Calls Tryz.prog 40 #[.string (numB a)] w fun e w' => RetFr w.heap.size .i64 a e w' ∧ Below w.heap.size w w' := by
  have := r1_ReadF w (numB a) (by rw [numB_list]; exact allDig_dec a) (by rw [numB_size]; omega)
  rwa [numB_list, dv_dec] at this
end Go.Proofs.YtccalhlhdiapiaaGreatDoor
namespace Go.Proofs.YtccalhlhdiapiaaGreatDoor
open Go.RowKit
open Go.Lib (decDigits nDigits)
set_option linter.unusedVariables false
theorem conv_d0 (w : World) : (convert 21 9 (.int .i32 48)).run Tryz.prog w = .ok (.string ⟨#[48]⟩) w := by kernel_rfl
theorem conv_d1 (w : World) : (convert 21 9 (.int .i32 49)).run Tryz.prog w = .ok (.string ⟨#[49]⟩) w := by kernel_rfl
theorem conv_d2 (w : World) : (convert 21 9 (.int .i32 50)).run Tryz.prog w = .ok (.string ⟨#[50]⟩) w := by kernel_rfl
theorem conv_d3 (w : World) : (convert 21 9 (.int .i32 51)).run Tryz.prog w = .ok (.string ⟨#[51]⟩) w := by kernel_rfl
theorem conv_d4 (w : World) : (convert 21 9 (.int .i32 52)).run Tryz.prog w = .ok (.string ⟨#[52]⟩) w := by kernel_rfl
theorem conv_d5 (w : World) : (convert 21 9 (.int .i32 53)).run Tryz.prog w = .ok (.string ⟨#[53]⟩) w := by kernel_rfl
theorem conv_d6 (w : World) : (convert 21 9 (.int .i32 54)).run Tryz.prog w = .ok (.string ⟨#[54]⟩) w := by kernel_rfl
theorem conv_d7 (w : World) : (convert 21 9 (.int .i32 55)).run Tryz.prog w = .ok (.string ⟨#[55]⟩) w := by kernel_rfl
theorem conv_d8 (w : World) : (convert 21 9 (.int .i32 56)).run Tryz.prog w = .ok (.string ⟨#[56]⟩) w := by kernel_rfl
theorem conv_d9 (w : World) : (convert 21 9 (.int .i32 57)).run Tryz.prog w = .ok (.string ⟨#[57]⟩) w := by kernel_rfl
theorem conv_digit (d : Nat) (h : d < 10) (w : World) : (convert 21 9 (.int .i32 (((48 + d : Nat)) : Int))).run Tryz.prog w = .ok (.string ⟨[UInt8.ofNat (48 + d)].toArray⟩) w := by
  obtain rfl | rfl | rfl | rfl | rfl | rfl | rfl | rfl | rfl | rfl : d = 0 ∨ d = 1 ∨ d = 2 ∨ d = 3 ∨ d = 4 ∨ d = 5 ∨ d = 6 ∨ d = 7 ∨ d = 8 ∨ d = 9 := by omega
  · exact conv_d0 w
  · exact conv_d1 w
  · exact conv_d2 w
  · exact conv_d3 w
  · exact conv_d4 w
  · exact conv_d5 w
  · exact conv_d6 w
  · exact conv_d7 w
  · exact conv_d8 w
  · exact conv_d9 w
set_option maxHeartbeats 1000000 in
theorem r1_FromInt (w : World) (n : Nat) (h : n ≤ 9223372036854775807) : Calls Tryz.prog 38 #[.int .i64 n] w fun e w' => e = .returned (.tuple #[numV n, .int .i64 0]) ∧ w = w' := by
  have hd20 := hid (show nDigits n ≤ 19 from nDigits_le (by omega) (by omega))
  go_enter Tryz.func38, Tryz.ntmps38
  go_wp2_with fail
  go_loop [0, 4] (fun nn ss => ∃ (m : Nat) (l : List UInt8), nn = .int .i64 m ∧ m ≤ 9223372036854775807 ∧ ss = .string ⟨l.toArray⟩ ∧ l.length ≤ 19 ∧ Hid (decDigits n = decDigits m ++ l)) (fun nn _ => (intOf nn).toNat)
  case atStart => exact ⟨n, [], rfl, h, rfl, by simp, by simp [Hid]⟩
  case round =>
    obtain ⟨m, l, rfl, hm, rfl, hl, hd⟩ := hrel
    have hc := conv_digit (m % 10) (by omega)
    have hz : (((48 + m % 10 : Nat)) : Int) = 48 + (m : Int) % 10 := by omega
    rw [hz] at hc
    by_cases h9 : 9 < m
    · have q1 : decide ((9 : Int) < (m : Int)) = true := by simp; omega
      have hdm := hid (decDigits_big (u := m) (by omega))
      have hl19 : l.length + 1 ≤ 19 := by
        have h1 := congrArg List.length hd.out
        rw [List.length_append, Go.Lib.decDigits_length] at h1
        have h2 := hd20.out
        have h3 := dec_length_pos m
        omega
      clear hz
      go_wp2_with fail
      go_round
      case rel => exact ⟨m / 10, UInt8.ofNat (48 + m % 10) :: l, by go_num, by omega, by simp [Go.ByteArray.mk_append_mk], by simpa using hl19, by rw [Hid, hd.out, hdm.out]; simp⟩
      case measure => simp [intOf] <;> omega
    · have q1 : decide ((9 : Int) < (m : Int)) = false := by simp; omega
      have hm9 : m < 10 := by omega
      have hdm := hid (decDigits_small hm9)
      have hmm : m % 10 = m := Nat.mod_eq_of_lt hm9
      rw [hmm] at hc
      have hmI : (48 + (m : Int) % 10) = 48 + (m : Int) := by omega
      rw [hmI] at hc
      clear hz hmm hmI h9
      go_wp2_with fail
      go_ret2
      refine ⟨ret_pair ?_ rfl, rfl⟩
      rw [numV, hd.out, hdm.out]
      simp [Go.ByteArray.mk_append_mk]
end Go.Proofs.YtccalhlhdiapiaaGreatDoor
namespace Go.Proofs.YtccalhlhdiapiaaGreatDoor
open Go.RowKit
set_option linter.unusedVariables false
set_option maxHeartbeats 4000000 in
theorem r1_Plus (w : World) (v u : Value) (a b : Nat) (ha : IsN .i64 w v a) (hb : IsN .i64 w u b) (hla : (limbs a).length ≤ 1000000) (hlb : (limbs b).length ≤ 1000000) :
    Calls Tryz.prog 39 #[v, u] w fun e w' => RetN .i64 (a + b) e w' ∧ Below w.heap.size w w' := by
  obtain ⟨i0, hi, hz0, hz1, hz2⟩ := info_parts info_int
  obtain ⟨a1, c1, rfl, h1, h2, h3⟩ := ha.openI
  obtain ⟨a2, c2, rfl, k1, k2, k3⟩ := hb.openI
  have H3 := hid h3; have K3 := hid k3; clear h3 k3 ha hb
  obtain ⟨n, ea⟩ : ∃ n, (limbs a).length = n := ⟨_, rfl⟩
  obtain ⟨m, eb⟩ : ∃ m, (limbs b).length = m := ⟨_, rfl⟩
  rw [ea] at h1 hla ⊢
  rw [eb] at k1 hlb ⊢
  have HA := hid ea; have HB := hid eb
  clear ea eb
  go_enter Tryz.func39, Tryz.ntmps39
  go_wp2_with fail
  go_loopw [5, 6, 7] (fun o cc i wr => ∃ (s : List Nat) (c : Nat) (C : Int), i = .int .i64 s.length ∧ cc = .int .i64 C ∧ C = (c : Int) ∧ c ≤ 1 ∧ s.length ≤ 1000001 ∧ (s.length ≤ n ∨ s.length ≤ m ∨ c = 0) ∧ Hid (PlusI a b s c) ∧ Hid (wr.ownsRow w.heap.size 3 1 o s.length (ints .i64 s)) ∧ Hid (Below w.heap.size w wr))
    (fun _ _ i _ => 1000002 - (intOf i).toNat)
  case atStart => exact ⟨[], 0, 0, rfl, rfl, rfl, by omega, by simp, .inl (by simp), PlusI.start a b, World.ownsRow_nil _ _ _ _, Below.refl _ _⟩
  case round =>
    obtain ⟨s, c, C, rfl, rfl, hC, hc1, hs1, hs2, hP, hO, hB⟩ := hrel
    obtain ⟨ao, co, rfl⟩ := owns_ex hO.out
    by_cases hA : s.length < n
    · obtain ⟨x, hx⟩ : ∃ x, (limbs a)[s.length]? = some x := ⟨_, List.getElem?_eq_getElem (by rw [HA.out]; exact hA)⟩
      obtain ⟨g, og, rfl, hg, hc⟩ := H3.out _ x hx
      have hc' := (hB.out.cell (p := ⟨g, og + s.length, none⟩) hg).trans hc
      have hxl := (sm_limbs a).get hx
      have HX := hid hx; clear hx hc
      by_cases hB' : s.length < m
      · obtain ⟨y, hy⟩ : ∃ y, (limbs b)[s.length]? = some y := ⟨_, List.getElem?_eq_getElem (by rw [HB.out]; exact hB')⟩
        obtain ⟨g', og', rfl, hg', hd⟩ := K3.out _ y hy
        have hd' := (hB.out.cell (p := ⟨g', og' + s.length, none⟩) hg').trans hd
        have hyl := (sm_limbs b).get hy
        have HY := hid hy; clear hy hd
        rcases (show c = 0 ∨ c = 1 by omega) with rfl | rfl
        · obtain rfl : C = 0 := by omega
          clear hC
          have HN := hid (hP.out.next (by rw [HA.out]; exact .inl hA))
          rw [getD_of HX.out, getD_of HY.out] at HN
          go_wp2_with (at_builtin; refine wpList_append_own _ rfl _ _ 59 rfl w.heap.size 3 i0 (.int .i64 0) 1 8 Tryz.underlying59 hi hz0 hz1 hz2 rfl (by decide) _ s.length _ rfl (hO.out.alloc _) ⟨wr.heap.size, 0, none⟩ 1 1 [.int .i64 ((↑x + ↑y : Int) % 1000000000)] rfl rfl (cell_one_new wr (.int .i64 ((↑x + ↑y : Int) % 1000000000)) 3) (by simp [Value.oneCell']) (by unfold maxLen; omega) (by omega) (by have := hB.out.size; simp; omega) ?_; intro v' w3 hown3 hgrow3 _; have HO3 := hid hown3; have HG3 := hid hgrow3; clear hown3 hgrow3)
          have hz : ((↑x + ↑y : Int) % 1000000000) = (((x + 0 + y) % 1000000000 : Nat) : Int) := by omega
          rw [hz] at HO3
          obtain ⟨n1, n2⟩ := own_next hO.out hB.out HO3.out HG3.out
          have N1 := hid n1; have N2 := hid n2; clear n1 n2 hz HO3 HG3
          obtain ⟨a3, k3, rfl⟩ := owns_ex N1.out
          go_wp2_with fail
          go_roundw
          case rel => exact ⟨s ++ [(x + 0 + y) % 1000000000], (x + 0 + y) / 1000000000, _, by simp, rfl, by omega, HN.out.c1, by simp <;> omega, by simp <;> omega, HN, N1, N2⟩
          case measure => simp [intOf] <;> omega
        · obtain rfl : C = 1 := by omega
          clear hC
          have HN := hid (hP.out.next (by rw [HA.out]; exact .inl hA))
          rw [getD_of HX.out, getD_of HY.out] at HN
          go_wp2_with (at_builtin; refine wpList_append_own _ rfl _ _ 59 rfl w.heap.size 3 i0 (.int .i64 0) 1 8 Tryz.underlying59 hi hz0 hz1 hz2 rfl (by decide) _ s.length _ rfl (hO.out.alloc _) ⟨wr.heap.size, 0, none⟩ 1 1 [.int .i64 ((1 + ↑x + ↑y : Int) % 1000000000)] rfl rfl (cell_one_new wr (.int .i64 ((1 + ↑x + ↑y : Int) % 1000000000)) 3) (by simp [Value.oneCell']) (by unfold maxLen; omega) (by omega) (by have := hB.out.size; simp; omega) ?_; intro v' w3 hown3 hgrow3 _; have HO3 := hid hown3; have HG3 := hid hgrow3; clear hown3 hgrow3)
          have hz : ((1 + ↑x + ↑y : Int) % 1000000000) = (((x + 1 + y) % 1000000000 : Nat) : Int) := by omega
          rw [hz] at HO3
          obtain ⟨n1, n2⟩ := own_next hO.out hB.out HO3.out HG3.out
          have N1 := hid n1; have N2 := hid n2; clear n1 n2 hz HO3 HG3
          obtain ⟨a3, k3, rfl⟩ := owns_ex N1.out
          go_wp2_with fail
          go_roundw
          case rel => exact ⟨s ++ [(x + 1 + y) % 1000000000], (x + 1 + y) / 1000000000, _, by simp, rfl, by omega, HN.out.c1, by simp <;> omega, by simp <;> omega, HN, N1, N2⟩
          case measure => simp [intOf] <;> omega
      · skip
        rcases (show c = 0 ∨ c = 1 by omega) with rfl | rfl
        · obtain rfl : C = 0 := by omega
          clear hC
          have HN := hid (hP.out.next (by rw [HA.out]; exact .inl hA))
          rw [getD_of HX.out, getD_none (by rw [HB.out]; omega)] at HN
          go_wp2_with (at_builtin; refine wpList_append_own _ rfl _ _ 59 rfl w.heap.size 3 i0 (.int .i64 0) 1 8 Tryz.underlying59 hi hz0 hz1 hz2 rfl (by decide) _ s.length _ rfl (hO.out.alloc _) ⟨wr.heap.size, 0, none⟩ 1 1 [.int .i64 ((↑x : Int) % 1000000000)] rfl rfl (cell_one_new wr (.int .i64 ((↑x : Int) % 1000000000)) 3) (by simp [Value.oneCell']) (by unfold maxLen; omega) (by omega) (by have := hB.out.size; simp; omega) ?_; intro v' w3 hown3 hgrow3 _; have HO3 := hid hown3; have HG3 := hid hgrow3; clear hown3 hgrow3)
          have hz : ((↑x : Int) % 1000000000) = (((x + 0 + 0) % 1000000000 : Nat) : Int) := by omega
          rw [hz] at HO3
          obtain ⟨n1, n2⟩ := own_next hO.out hB.out HO3.out HG3.out
          have N1 := hid n1; have N2 := hid n2; clear n1 n2 hz HO3 HG3
          obtain ⟨a3, k3, rfl⟩ := owns_ex N1.out
          go_wp2_with fail
          go_roundw
          case rel => exact ⟨s ++ [(x + 0 + 0) % 1000000000], (x + 0 + 0) / 1000000000, _, by simp, rfl, by omega, HN.out.c1, by simp <;> omega, by simp <;> omega, HN, N1, N2⟩
          case measure => simp [intOf] <;> omega
        · obtain rfl : C = 1 := by omega
          clear hC
          have HN := hid (hP.out.next (by rw [HA.out]; exact .inl hA))
          rw [getD_of HX.out, getD_none (by rw [HB.out]; omega)] at HN
          go_wp2_with (at_builtin; refine wpList_append_own _ rfl _ _ 59 rfl w.heap.size 3 i0 (.int .i64 0) 1 8 Tryz.underlying59 hi hz0 hz1 hz2 rfl (by decide) _ s.length _ rfl (hO.out.alloc _) ⟨wr.heap.size, 0, none⟩ 1 1 [.int .i64 ((1 + ↑x : Int) % 1000000000)] rfl rfl (cell_one_new wr (.int .i64 ((1 + ↑x : Int) % 1000000000)) 3) (by simp [Value.oneCell']) (by unfold maxLen; omega) (by omega) (by have := hB.out.size; simp; omega) ?_; intro v' w3 hown3 hgrow3 _; have HO3 := hid hown3; have HG3 := hid hgrow3; clear hown3 hgrow3)
          have hz : ((1 + ↑x : Int) % 1000000000) = (((x + 1 + 0) % 1000000000 : Nat) : Int) := by omega
          rw [hz] at HO3
          obtain ⟨n1, n2⟩ := own_next hO.out hB.out HO3.out HG3.out
          have N1 := hid n1; have N2 := hid n2; clear n1 n2 hz HO3 HG3
          obtain ⟨a3, k3, rfl⟩ := owns_ex N1.out
          go_wp2_with fail
          go_roundw
          case rel => exact ⟨s ++ [(x + 1 + 0) % 1000000000], (x + 1 + 0) / 1000000000, _, by simp, rfl, by omega, HN.out.c1, by simp <;> omega, by simp <;> omega, HN, N1, N2⟩
          case measure => simp [intOf] <;> omega
    · skip
      by_cases hB' : s.length < m
      · obtain ⟨y, hy⟩ : ∃ y, (limbs b)[s.length]? = some y := ⟨_, List.getElem?_eq_getElem (by rw [HB.out]; exact hB')⟩
        obtain ⟨g', og', rfl, hg', hd⟩ := K3.out _ y hy
        have hd' := (hB.out.cell (p := ⟨g', og' + s.length, none⟩) hg').trans hd
        have hyl := (sm_limbs b).get hy
        have HY := hid hy; clear hy hd
        rcases (show c = 0 ∨ c = 1 by omega) with rfl | rfl
        · obtain rfl : C = 0 := by omega
          clear hC
          have HN := hid (hP.out.next (by rw [HB.out]; exact .inr (.inl hB')))
          rw [getD_none (by rw [HA.out]; omega), getD_of HY.out] at HN
          go_wp2_with (at_builtin; refine wpList_append_own _ rfl _ _ 59 rfl w.heap.size 3 i0 (.int .i64 0) 1 8 Tryz.underlying59 hi hz0 hz1 hz2 rfl (by decide) _ s.length _ rfl (hO.out.alloc _) ⟨wr.heap.size, 0, none⟩ 1 1 [.int .i64 ((↑y : Int) % 1000000000)] rfl rfl (cell_one_new wr (.int .i64 ((↑y : Int) % 1000000000)) 3) (by simp [Value.oneCell']) (by unfold maxLen; omega) (by omega) (by have := hB.out.size; simp; omega) ?_; intro v' w3 hown3 hgrow3 _; have HO3 := hid hown3; have HG3 := hid hgrow3; clear hown3 hgrow3)
          have hz : ((↑y : Int) % 1000000000) = (((0 + 0 + y) % 1000000000 : Nat) : Int) := by omega
          rw [hz] at HO3
          obtain ⟨n1, n2⟩ := own_next hO.out hB.out HO3.out HG3.out
          have N1 := hid n1; have N2 := hid n2; clear n1 n2 hz HO3 HG3
          obtain ⟨a3, k3, rfl⟩ := owns_ex N1.out
          go_wp2_with fail
          go_roundw
          case rel => exact ⟨s ++ [(0 + 0 + y) % 1000000000], (0 + 0 + y) / 1000000000, _, by simp, rfl, by omega, HN.out.c1, by simp <;> omega, by simp <;> omega, HN, N1, N2⟩
          case measure => simp [intOf] <;> omega
        · obtain rfl : C = 1 := by omega
          clear hC
          have HN := hid (hP.out.next (by rw [HB.out]; exact .inr (.inl hB')))
          rw [getD_none (by rw [HA.out]; omega), getD_of HY.out] at HN
          go_wp2_with (at_builtin; refine wpList_append_own _ rfl _ _ 59 rfl w.heap.size 3 i0 (.int .i64 0) 1 8 Tryz.underlying59 hi hz0 hz1 hz2 rfl (by decide) _ s.length _ rfl (hO.out.alloc _) ⟨wr.heap.size, 0, none⟩ 1 1 [.int .i64 ((1 + ↑y : Int) % 1000000000)] rfl rfl (cell_one_new wr (.int .i64 ((1 + ↑y : Int) % 1000000000)) 3) (by simp [Value.oneCell']) (by unfold maxLen; omega) (by omega) (by have := hB.out.size; simp; omega) ?_; intro v' w3 hown3 hgrow3 _; have HO3 := hid hown3; have HG3 := hid hgrow3; clear hown3 hgrow3)
          have hz : ((1 + ↑y : Int) % 1000000000) = (((0 + 1 + y) % 1000000000 : Nat) : Int) := by omega
          rw [hz] at HO3
          obtain ⟨n1, n2⟩ := own_next hO.out hB.out HO3.out HG3.out
          have N1 := hid n1; have N2 := hid n2; clear n1 n2 hz HO3 HG3
          obtain ⟨a3, k3, rfl⟩ := owns_ex N1.out
          go_wp2_with fail
          go_roundw
          case rel => exact ⟨s ++ [(0 + 1 + y) % 1000000000], (0 + 1 + y) / 1000000000, _, by simp, rfl, by omega, HN.out.c1, by simp <;> omega, by simp <;> omega, HN, N1, N2⟩
          case measure => simp [intOf] <;> omega
      · skip
        rcases (show c = 0 ∨ c = 1 by omega) with rfl | rfl
        · obtain rfl : C = 0 := by omega
          clear hC
          have hs := hid (hP.out.done (by rw [HA.out]; exact hA) (by rw [HB.out]; exact hB') rfl)
          go_wp2_with fail
          go_ret
          exact ⟨⟨_, rfl, owns_isN hO.out hs.out⟩, hB.out⟩
        · obtain rfl : C = 1 := by omega
          clear hC
          have HN := hid (hP.out.next (by exact .inr (.inr (by omega))))
          rw [getD_none (by rw [HA.out]; omega), getD_none (by rw [HB.out]; omega)] at HN
          go_wp2_with (at_builtin; refine wpList_append_own _ rfl _ _ 59 rfl w.heap.size 3 i0 (.int .i64 0) 1 8 Tryz.underlying59 hi hz0 hz1 hz2 rfl (by decide) _ s.length _ rfl (hO.out.alloc _) ⟨wr.heap.size, 0, none⟩ 1 1 [.int .i64 (1)] rfl rfl (cell_one_new wr (.int .i64 (1)) 3) (by simp [Value.oneCell']) (by unfold maxLen; omega) (by omega) (by have := hB.out.size; simp; omega) ?_; intro v' w3 hown3 hgrow3 _; have HO3 := hid hown3; have HG3 := hid hgrow3; clear hown3 hgrow3)
          have hz : (1) = (((0 + 1 + 0) % 1000000000 : Nat) : Int) := by omega
          rw [hz] at HO3
          obtain ⟨n1, n2⟩ := own_next hO.out hB.out HO3.out HG3.out
          have N1 := hid n1; have N2 := hid n2; clear n1 n2 hz HO3 HG3
          obtain ⟨a3, k3, rfl⟩ := owns_ex N1.out
          go_wp2_with fail
          go_roundw
          case rel => exact ⟨s ++ [(0 + 1 + 0) % 1000000000], (0 + 1 + 0) / 1000000000, _, by simp, rfl, by omega, HN.out.c1, by simp <;> omega, by simp <;> omega, HN, N1, N2⟩
          case measure => simp [intOf] <;> omega
end Go.Proofs.YtccalhlhdiapiaaGreatDoor
namespace Go.Proofs.YtccalhlhdiapiaaGreatDoor
open Go.RowKit Go.Shelf Go.Lib
set_option linter.unusedVariables false
def digs : List UInt8 := [48, 49, 50, 51, 52, 53, 54, 55, 56, 57]
theorem mem_digs (b : UInt8) : digs.contains b = isDig b := by
  rw [Bool.eq_iff_iff, List.contains_iff_mem, isDig_iff]
  simp only [digs, List.mem_cons, ← UInt8.toNat_inj, List.not_mem_nil, or_false]
  simp
  omega
theorem trim_nil {l cs : List UInt8} : trimS l cs = [] ↔ ∀ b ∈ l, cs.contains b = true := by
  have key : ∀ m : List UInt8, m.dropWhile (cs.contains ·) = [] ↔ ∀ b ∈ m, cs.contains b = true := by
    intro m
    induction m with
    | nil => simp
    | cons x r ih =>
      by_cases hx : cs.contains x = true
      · rw [List.dropWhile_cons_of_pos hx, ih]
        simp at hx
        simp [hx]
      · rw [List.dropWhile_cons_of_neg hx]
        simp at hx
        simp [hx]
  unfold trimS trimLeftS trimRightS
  rw [key]
  constructor
  · intro h
    have h2 : l.reverse.dropWhile (cs.contains ·) = [] := by
      cases hm : l.reverse.dropWhile (cs.contains ·) with
      | nil => rfl
      | cons x r =>
        exfalso
        have hx : cs.contains x = true := h x (by rw [hm]; simp)
        have := List.head?_dropWhile_not (cs.contains ·) l.reverse
        rw [hm] at this
        simp only [List.head?_cons] at this
        rw [hx] at this
        cases this
    rw [key] at h2
    exact fun b hb => h2 b (List.mem_reverse.2 hb)
  · intro h b hb
    have : b ∈ l.reverse := by
      have hs := List.dropWhile_sublist (l := l.reverse) (cs.contains ·)
      exact hs.subset (List.mem_reverse.1 hb)
    exact h b (List.mem_reverse.1 this)
theorem form_trim {b : UInt8} {r : List UInt8} (h : ¬ (b = 48 ∧ r ≠ [])) : formB (b :: r) = (trimS (b :: r) digs).isEmpty := by
  have e : (trimS (b :: r) digs).isEmpty = (b :: r).all isDig := by
    rw [Bool.eq_iff_iff, List.isEmpty_iff, trim_nil, List.all_eq_true]
    exact ⟨fun h x hx => (mem_digs x) ▸ h x hx, fun h x hx => (mem_digs x).symm ▸ h x hx⟩
  rw [e, formB]
  have : ((b :: r) == [48] || (b :: r).head? != some 48) = true := by
    by_cases hb : b = 48
    · have hr : r = [] := Decidable.byContradiction fun hr => h ⟨hb, hr⟩
      subst hb; subst hr; rfl
    · simp [hb]
  rw [this]
  simp
theorem form_zero {c : UInt8} {r : List UInt8} : formB (48 :: c :: r) = false := by simp [formB]
theorem digs_ascii : ∀ (j : Nat) b, (⟨#[48, 49, 50, 51, 52, 53, 54, 55, 56, 57]⟩ : ByteArray).data.toList[j]? = some b → b.toNat < 128 := ascii_of_all (by decide)
set_option maxRecDepth 100000 in
set_option maxHeartbeats 4000000 in
theorem l_Form (w : World) (s : ByteArray) (hs : s.size ≤ 100000000) :
    Calls Tryz.prog 160 #[.string s] w fun e w' => e = .returned (.bool (formB s.data.toList)) ∧ Below w.heap.size w w' := by
  obtain ⟨⟨l⟩⟩ := s
  simp only [ByteArray.size, List.size_toArray] at hs
  cases l with
  | nil =>
    go_enter Tryz.func160, Tryz.ntmps160
    go_wp2_with fail
    go_ret
    exact ⟨rfl, Below.refl _ _⟩
  | cons b r =>
    have hix : (ByteArray.mk ⟨b :: r⟩)[0]'(by simp [ByteArray.size]) = b := rfl
    have htr := fun w => Tryz.strings_Trim ⟨⟨b :: r⟩⟩ ⟨#[48, 49, 50, 51, 52, 53, 54, 55, 56, 57]⟩ w (by simp only [ByteArray.size, List.size_toArray]; omega) (by decide) digs_ascii
    have HTR := hid htr
    clear htr
    by_cases hb : b = 48
    · cases r with
      | nil =>
        subst hb
        go_enter Tryz.func160, Tryz.ntmps160
        go_wp2_with (first
          | (go_at_call 187; refine (HTR.out _).mono ?_; rintro e w' ⟨rfl, hbw⟩)
          | fail)
        go_ret
        refine ⟨?_, hbw⟩
        rw [form_trim (by simp)]
        rfl
      | cons c r =>
        subst hb
        go_enter Tryz.func160, Tryz.ntmps160
        go_wp2_with fail
        go_ret
        refine ⟨?_, Below.refl _ _⟩
        rw [form_zero]
        rfl
    · have hb1 : (b == 48) = false := by simpa using hb
      have hb2 : ¬ ((b.toNat : Int) = 48) := fun e => hb (by apply UInt8.toNat_inj.1; simp; omega)
      have hb3 : ((b.toNat : Int) != 48) = true := by simpa using hb2
      go_enter Tryz.func160, Tryz.ntmps160
      go_wp2_with (first
        | (go_at_call 187; refine (HTR.out _).mono ?_; rintro e w' ⟨rfl, hbw⟩)
        | fail)
      go_ret
      refine ⟨?_, hbw⟩
      rw [form_trim (by simp [hb])]
      rfl
end Go.Proofs.YtccalhlhdiapiaaGreatDoor
namespace Go.Proofs.YtccalhlhdiapiaaGreatDoor
open Go.RowKit Go.Shelf
open Go.Lib (decDigits nDigits)
set_option linter.unusedVariables false
def bitB (s : ByteArray) : Bool := s.data.toList.all fun b => b == 48 || b == 49
def bitE (s : ByteArray) : Int := if bitB s = true then 0 else 3
theorem bits_ascii : ∀ (j : Nat) b, (⟨#[48, 49]⟩ : ByteArray).data.toList[j]? = some b → b.toNat < 128 := ascii_of_all (by decide)
theorem bitB_trim (s : ByteArray) : (Lib.trimS s.data.toList [48, 49]).isEmpty = bitB s := by
  rw [Bool.eq_iff_iff, List.isEmpty_iff, trim_nil, bitB, List.all_eq_true]
  refine forall_congr' fun b => forall_congr' fun _ => ?_
  rw [List.contains_iff_mem]
  simp
set_option maxRecDepth 100000 in
set_option maxHeartbeats 1000000 in
theorem b_Check (w : World) (s : ByteArray) (hs : s.size ≤ 100000000) :
    Calls Tryz.prog 139 #[.string s] w fun e w' => e = .returned (.int .i64 (bitE s)) ∧ Below w.heap.size w w' := by
  have htr := hid (Tryz.strings_Trim s ⟨#[48, 49]⟩ w (by omega) (by decide) bits_ascii)
  have hb := bitB_trim s
  obtain ⟨r, hr⟩ : ∃ r, Lib.trimS s.data.toList [48, 49] = r := ⟨_, rfl⟩
  have e0 : (⟨#[48, 49]⟩ : ByteArray).data.toList = [48, 49] := rfl
  rw [e0, hr] at htr
  rw [hr] at hb
  cases r with
  | nil =>
    have e1 : bitE s = 0 := if_pos hb.symm
    rw [e1]
    clear hb hr e1
    go_enter Tryz.func139, Tryz.ntmps139
    go_wp2_with fail
    refine htr.out.mono ?_; rintro e w1 ⟨rfl, hb1⟩
    go_wp2_with fail
    go_ret
    exact ⟨rfl, hb1⟩
  | cons b r =>
    have e1 : bitE s = 3 := if_neg (by rw [← hb]; simp)
    rw [e1]
    clear hb hr e1
    go_enter Tryz.func139, Tryz.ntmps139
    go_wp2_with fail
    refine htr.out.mono ?_; rintro e w1 ⟨rfl, hb1⟩
    go_wp2_with fail
    go_ret
    exact ⟨rfl, hb1⟩
def chkE (s : ByteArray) : Int := if bitB s = true then (if 256 < s.size then 4 else 0) else 3
end Go.Proofs.YtccalhlhdiapiaaGreatDoor
namespace Go.Proofs.YtccalhlhdiapiaaGreatDoor
open Go.RowKit
open Go.Lib (decDigits nDigits)
set_option linter.unusedVariables false
set_option linter.unusedSimpArgs false
theorem r2_Int (w : World) (n : Nat) (h : n ≤ 9223372036854775807) : Calls Tryz.prog 21 #[.int .i64 n] w fun e w' => e = .returned (.string (numB n)) ∧ w = w' := by
  have q0 : decide ((0 : Int) ≤ (n : Int)) = true := by simp
  go_enter Tryz.func21, Tryz.ntmps21
  go_wp2_with fail
  refine (r1_FromInt _ n h).mono ?_; rintro e w1 ⟨rfl, rfl⟩
  rw [numV_eq]
  go_wp2_with fail
  go_ret
  exact ⟨rfl, rfl⟩
theorem r3_small (w : World) (n : Nat) (h : n ≤ 9223372036854775807) : Calls Tryz.prog 120 #[.int .i64 n] w fun e w' => RetN .i64 n e w' ∧ Below w.heap.size w w' := by
  have hd := hid (show nDigits n ≤ 9000 from Nat.le_trans (nDigits_le (k := 19) (by omega) (by omega)) (by omega))
  go_enter Tryz.func120, Tryz.ntmps120
  go_wp2_with fail
  refine (r2_Int _ n h).mono ?_; rintro e w1 ⟨rfl, rfl⟩
  go_wp2_with fail
  refine (r1_Read_num _ n hd.out).mono ?_; rintro e w1 ⟨⟨v, rfl, hv⟩, hb⟩
  go_wp2_with fail
  go_ret
  exact ⟨⟨_, rfl, hv⟩, hb⟩
theorem limbs_two {n k : Nat} (h : n < 2 ^ k) : (limbs n).length ≤ k :=
  limbs_length_le.2 (Nat.lt_of_lt_of_le h (Nat.pow_le_pow_left (by omega) k))
set_option maxRecDepth 100000 in
set_option maxHeartbeats 1000000 in
theorem r3_Two (w : World) (n : Nat) (hn : n ≤ 100000) : Calls Tryz.prog 73 #[.int .i64 n] w fun e w' => RetN .i64 (2 ^ n) e w' ∧ Below w.heap.size w w' := by
  go_enter Tryz.func73, Tryz.ntmps73
  go_wp2_with fail
  refine (r3_small _ 1 (by omega)).mono ?_; rintro e w1 ⟨⟨v, rfl, hv⟩, hb⟩
  have V := hid hv; have B := hid hb
  clear hv hb
  go_wp2_with fail
  go_loopw [0, 3] (fun nn o wr => ∃ j : Nat, nn = .int .i64 j ∧ j ≤ n ∧ Hid (IsN .i64 wr o (2 ^ (n - j))) ∧ Hid (Below w.heap.size w wr)) (fun nn o wr => (intOf nn).toNat)
  case atStart => exact ⟨n, rfl, Nat.le_refl _, by rw [Nat.sub_self, Nat.pow_zero]; exact V, B⟩
  case round =>
    obtain ⟨j, rfl, hj, hO, hB⟩ := hrel
    by_cases h0 : 0 < j
    · have q0 : decide ((0 : Int) < (j : Int)) = true := by simp; omega
      have ll : Hid ((limbs (2 ^ (n - j))).length ≤ 1000000) := Nat.le_trans (limbs_two (k := n - j + 1) (Nat.pow_lt_pow_right (by omega) (by omega))) (by omega)
      have hs : Hid (2 ^ (n - j) + 2 ^ (n - j) = 2 ^ (n - (j - 1))) := by
        show _ = _
        rw [show n - (j - 1) = n - j + 1 by omega, Nat.pow_succ]; omega
      go_wp2_with fail
      refine (r1_Plus _ _ _ _ _ hO.out hO.out ll.out ll.out).mono ?_; rintro e w2 ⟨⟨v2, rfl, hv2⟩, hb2⟩
      have V2 := hid hv2; have B2 := hid (bnext hB.out hb2)
      clear hv2 hb2
      go_wp2_with fail
      go_roundw
      case rel => exact ⟨j - 1, by go_num, by omega, V2.out.cast hs.out, B2⟩
      case measure => simp [intOf] <;> omega
    · obtain rfl : j = 0 := by omega
      go_wp2_with fail
      go_ret
      exact ⟨⟨_, rfl, hO.out⟩, hB.out⟩
end Go.Proofs.YtccalhlhdiapiaaGreatDoor
namespace Go.Proofs.YtccalhlhdiapiaaGreatDoor
open Go.RowKit
open Go.Lib (decDigits nDigits)
def cW (s : ByteArray) : ByteArray := ⟨(Lib.cut s.data.toList [47]).1.toArray⟩
def cB (s : ByteArray) : ByteArray := ⟨(Lib.cut s.data.toList [47]).2.1.toArray⟩
def cS (s : ByteArray) : Bool := (Lib.cut s.data.toList [47]).2.2
def iM (s : ByteArray) : Bool := Lib.hasPrefix s.data.toList [45]
def iD (s : ByteArray) : ByteArray := ⟨(Lib.trimPrefix s.data.toList [45]).toArray⟩
def fB (s : ByteArray) : Bool := formB s.data.toList
def bN (s : ByteArray) : Nat := dv s.data.toList
def iB (s : ByteArray) : Bool := fB (iD s) && !(iM s && decide (iD s = ⟨#[48]⟩))
def qD (s : ByteArray) : ByteArray := if cS s = true then cB s else ⟨#[49]⟩
def qB (s : ByteArray) : Bool := iB (cW s) && (!cS s || (decide (iD (cW s) ≠ ⟨#[48]⟩) && fB (cB s) && decide (cB s ≠ ⟨#[48]⟩) && decide (cB s ≠ ⟨#[49]⟩)))
def qL (s : ByteArray) : Bool := decide (4000 < (iD (cW s)).size) || decide (4000 < (qD s).size)
def qG (s : ByteArray) : Bool := cS s && !decide (Nat.gcd (bN (iD (cW s))) (bN (qD s)) = 1)
def qE (s : ByteArray) : Int := if qB s = false then 3 else if qL s = true then 5 else if qG s = true then 3 else 0
theorem dv_limbs {l : List UInt8} (h : allDig l) {L : Nat} (hl : l.length ≤ 9 * L) : (limbs (dv l)).length ≤ L := by
  refine limbs_length_le.2 (Nat.lt_of_lt_of_le (dv_lt h) ?_)
  refine Nat.le_trans (Nat.pow_le_pow_right (by omega) hl) ?_
  rw [show (1000000000 : Nat) = 10 ^ 9 by rfl, ← Nat.pow_mul]
  exact Nat.le_refl _
theorem fB_dig {s : ByteArray} (h : fB s = true) : allDig s.data.toList := (formB_iff.1 h).2.2
theorem iB_form {s : ByteArray} (h : iB s = true) : fB (iD s) = true := by
  unfold iB at h
  simp only [Bool.and_eq_true] at h
  exact h.1
theorem qB_whole {s : ByteArray} (h : qB s = true) : iB (cW s) = true := by
  unfold qB at h
  simp only [Bool.and_eq_true] at h
  exact h.1
theorem qB_below {s : ByteArray} (h : qB s = true) : fB (qD s) = true := by
  unfold qB at h
  simp only [Bool.and_eq_true, Bool.or_eq_true, Bool.not_eq_true'] at h
  unfold qD
  rcases h.2 with h2 | h2
  · rw [h2]; rfl
  · split
    · exact h2.1.1.2
    · rfl
theorem qE_ok {s : ByteArray} (h1 : qB s = true) (h2 : qL s = false) (h3 : qG s = false) : qE s = 0 := by simp [qE, h1, h2, h3]
theorem qE_zero {s : ByteArray} (h : qE s = 0) : qB s = true ∧ qL s = false ∧ qG s = false := by
  unfold qE at h
  cases h1 : qB s <;> cases h2 : qL s <;> cases h3 : qG s <;> simp [h1, h2, h3] at h ⊢
theorem cW_size (s : ByteArray) : (cW s).size ≤ s.size := by
  have e : s.data.toList.length = s.size := Array.length_toList
  unfold cW Lib.cut
  split <;> simp only [ByteArray.size, List.size_toArray, List.length_take] <;> (simp only [ByteArray.size] at e; omega)
theorem cB_size (s : ByteArray) : (cB s).size ≤ s.size := by
  have e : s.data.toList.length = s.size := Array.length_toList
  unfold cB Lib.cut
  split
  · simp only [ByteArray.size, List.size_toArray, List.length_drop]; simp only [ByteArray.size] at e; omega
  · exact Nat.zero_le _
theorem iD_size (s : ByteArray) : (iD s).size ≤ s.size := by
  have e : s.data.toList.length = s.size := Array.length_toList
  unfold iD Lib.trimPrefix
  split <;> simp only [ByteArray.size, List.size_toArray, List.length_drop] <;> (simp only [ByteArray.size] at e; omega)
theorem qD_size (s : ByteArray) : (qD s).size ≤ s.size + 1 := by
  have := cB_size s
  unfold qD
  split
  · omega
  · exact Nat.succ_le_succ (Nat.zero_le _)
end Go.Proofs.YtccalhlhdiapiaaGreatDoor
namespace Go.Proofs.YtccalhlhdiapiaaGreatDoor
open Go.RowKit Go.Shelf
set_option linter.unusedVariables false
theorem ne_lit {d : ByteArray} {l : List UInt8} (h : ¬ d = ⟨l.toArray⟩) : (d.toList == l) = false := by
  rw [beq_eq_false_iff_ne]
  intro e
  apply h
  have e2 : d.data.toList = l := by rw [← e]; exact (Lib.toList_data d).symm
  apply ByteArray.ext
  rw [← e2]
theorem l_form (w : World) (s : ByteArray) (hs : s.size ≤ 100000000) :
    Calls Tryz.prog 160 #[.string s] w fun e w' => e = .returned (.bool (fB s)) ∧ Below w.heap.size w w' := l_Form w s hs
theorem l_cutp (w : World) (s : ByteArray) :
    Calls Tryz.prog 159 #[.string s, .string ⟨#[45]⟩] w fun e w' => e = .returned (.tuple #[.string (iD s), .bool (iM s)]) ∧ w' = w := Tryz.strings_CutPrefix s ⟨#[45]⟩ w
set_option maxRecDepth 100000 in
set_option maxHeartbeats 1000000 in
theorem f_Integer (w : World) (s : ByteArray) (hs : s.size ≤ 100000000) :
    Calls Tryz.prog 108 #[.string s] w fun e w' => e = .returned (.tuple #[.bool (iM s), .string (iD s), .bool (iB s)]) ∧ Below w.heap.size w w' := by
  have HI := hid (show iB s = (fB (iD s) && !(iM s && decide (iD s = ⟨#[48]⟩))) from rfl)
  have hsz := iD_size s
  obtain ⟨m, hm⟩ : ∃ m, iM s = m := ⟨_, rfl⟩
  obtain ⟨d, hd⟩ : ∃ d, iD s = d := ⟨_, rfl⟩
  obtain ⟨f, hf⟩ : ∃ f, fB d = f := ⟨_, rfl⟩
  rw [hm, hd, hf] at HI
  rw [HI.out, hm, hd]
  rw [hd] at hsz
  have HC := hid (l_cutp w s)
  rw [hm, hd] at HC
  have HF := fun W => hid (l_form W d (by omega))
  rw [hf] at HF
  clear HI hm hd hf
  have run : ∀ r : Bool, (f && !(m && decide (d = ⟨#[48]⟩))) = r → Calls Tryz.prog 108 #[.string s] w fun e w' => e = .returned (.tuple #[.bool m, .string d, .bool r]) ∧ Below w.heap.size w w' := by
    intro r hr
    rcases Decidable.em (d = ⟨#[48]⟩) with rfl | h0
    · simp only [decide_true, Bool.and_true] at hr
      subst hr
      cases f <;> cases m
      all_goals
        go_enter Tryz.func108, Tryz.ntmps108
        go_wp2_with (first
          | (go_at_call 159; refine HC.out.mono ?_; rintro e w' ⟨rfl, rfl⟩)
          | (go_at_call 160; refine (HF _).out.mono ?_; rintro e w' ⟨rfl, hbw⟩)
          | fail)
        go_ret3
        exact ⟨rfl, hbw⟩
    have h48 := ne_lit (l := [48]) h0
    simp only [h0, decide_false, Bool.and_false, Bool.not_false, Bool.and_true] at hr
    subst hr
    cases f <;> cases m
    all_goals
      go_enter Tryz.func108, Tryz.ntmps108
      go_wp2_with (first
        | (go_at_call 159; refine HC.out.mono ?_; rintro e w' ⟨rfl, rfl⟩)
        | (go_at_call 160; refine (HF _).out.mono ?_; rintro e w' ⟨rfl, hbw⟩)
        | fail)
      go_ret3
      exact ⟨rfl, hbw⟩
  exact run _ rfl
set_option maxRecDepth 100000 in
set_option maxHeartbeats 1000000 in
theorem n_Check (w : World) (s : ByteArray) (hs : s.size ≤ 100000000) :
    Calls Tryz.prog 109 #[.string s] w fun e w' => e = .returned (.int .i64 (errN s.data.toList)) ∧ Below w.heap.size w w' := by
  have hsz : s.data.toList.length = s.size := Array.length_toList
  by_cases hf : formB s.data.toList = true
  · by_cases hl : 4000 < s.size
    · rw [errN_long (formB_iff.1 hf) (by omega)]
      have q0 : decide ((4000 : Int) < (s.size : Int)) = true := by simp; omega
      have HF := fun W => hid (l_form W s hs)
      rw [show fB s = true from hf] at HF
      clear hf hl hsz
      go_enter Tryz.func109, Tryz.ntmps109
      go_wp2_with (first
        | (go_at_call 160; refine (HF _).out.mono ?_; rintro e w' ⟨rfl, hbw⟩)
        | fail)
      go_ret
      exact ⟨rfl, hbw⟩
    · rw [errN_ok (formB_iff.1 hf) (by omega)]
      have q0 : decide ((4000 : Int) < (s.size : Int)) = false := by simp; omega
      have HF := fun W => hid (l_form W s hs)
      rw [show fB s = true from hf] at HF
      clear hf hl hsz
      go_enter Tryz.func109, Tryz.ntmps109
      go_wp2_with (first
        | (go_at_call 160; refine (HF _).out.mono ?_; rintro e w' ⟨rfl, hbw⟩)
        | fail)
      go_ret
      exact ⟨rfl, hbw⟩
  · rw [errN_bad (fun h => hf (formB_iff.2 h))]
    have HF := fun W => hid (l_form W s hs)
    rw [show fB s = false from by unfold fB; simpa using hf] at HF
    clear hf hsz
    go_enter Tryz.func109, Tryz.ntmps109
    go_wp2_with (first
      | (go_at_call 160; refine (HF _).out.mono ?_; rintro e w' ⟨rfl, hbw⟩)
      | fail)
    go_ret
    exact ⟨rfl, hbw⟩
end Go.Proofs.YtccalhlhdiapiaaGreatDoor
namespace Go.Proofs.YtccalhlhdiapiaaGreatDoor
open Go.RowKit
set_option linter.unusedVariables false
theorem info_u64 : (Tryz.prog.info? 147).map (fun i => (i.zero, i.size, i.bytes)) = some (some (.int .u64 0), 1, 8) := by kernel_rfl
theorem make_nat (n : Nat) (hn : n ≤ 3000000) (W : World) : (Instr.makeSlice 119 (.int .i64 (n : Int)) (.int .i64 (n : Int))).run Tryz.prog W = .ok (.slice (some ⟨W.heap.size, 0, none⟩) n n) (W.alloc (.cells (madeCells #[.int .u64 0] n) 147)) :=
  run_make_row' (P := Tryz.prog) 119 147 (.int .u64 0) 8 Tryz.underlying119 (by kernel_rfl) rfl .i64 .i64 n (by omega) (by omega) W
set_option maxHeartbeats 800000 in
theorem l_trim_at (w : World) (a : Option Addr) (c : Nat) (l : List Nat) (hs : Sm l) (h : Row w (.slice a l.length c) (ints .u64 l)) :
    Calls Tryz.prog 158 #[.slice a l.length c] w fun e w' => RetAt .u64 a c (val l) e w' ∧ w = w' := by
  obtain ⟨a', c', e, h1, h2, h3⟩ := h.openI
  simp at e
  obtain ⟨rfl, rfl⟩ := e
  have H := hid h; have H3 := hid h3; have HS := hid hs; clear h h3 hs
  go_enter Tryz.func158, Tryz.ntmps158
  go_wp2_with fail
  go_loop [0] (fun u => ∃ m : Nat, m ≤ l.length ∧ u = .slice a m c ∧ Hid (∀ j x, m ≤ j → l[j]? = some x → x = 0)) (fun u => match u with | .slice _ m _ => m | _ => 0)
  case atStart => exact ⟨l.length, Nat.le_refl _, rfl, fun j x hj hx => by have := (List.getElem?_eq_some_iff.1 hx).1; omega⟩
  case round =>
    obtain ⟨m, hm, rfl, hz⟩ := hrel
    rcases Nat.eq_zero_or_pos m with h0 | h0
    · subst h0
      go_wp2_with fail
      go_ret
      exact ⟨⟨_, rfl, trim_row H.out HS.out hm hz.out (fun x h => absurd h (by omega))⟩, rfl⟩
    · obtain ⟨x, hx⟩ : ∃ x, l[m - 1]? = some x := ⟨_, List.getElem?_eq_getElem (by omega)⟩
      obtain ⟨g, o, rfl, hg, hc⟩ := H3.out (m - 1) _ hx
      have HX := hid hx; clear hx
      rcases Nat.eq_zero_or_pos x with hx0 | hx0
      · have hb : ((x : Int) == 0) = true := by simp [hx0]
        have HX0 := hid hx0; clear hx0
        go_wp2_with fail
        go_round
        case rel =>
          exact ⟨m - 1, by omega, by go_num, fun j y hj hy => by
            by_cases e : j = m - 1
            · subst e; have := HX.out; rw [hy] at this; cases this; exact HX0.out
            · exact hz.out j y (by omega) hy⟩
        case measure => simp; omega
      · have hb : ((x : Int) == 0) = false := by simp; omega
        go_wp2_with fail
        go_ret
        exact ⟨⟨_, rfl, trim_row H.out HS.out hm hz.out (fun y _ hy => by have := HX.out; rw [hy] at this; cases this; omega)⟩, rfl⟩
theorem l_trim (w : World) (v : Value) (l : List Nat) (hs : Sm l) (h : Row w v (ints .u64 l)) :
    Calls Tryz.prog 158 #[v] w fun e w' => RetN .u64 (val l) e w' ∧ w = w' := by
  obtain ⟨a, c, rfl, h1, h2, h3⟩ := h.openI
  exact (l_trim_at w a c l hs h).mono fun e w' ⟨⟨m, he, hi⟩, hw⟩ => ⟨⟨_, he, hi⟩, hw⟩
theorem trim_ex (l : List Nat) : ∃ m, m ≤ l.length ∧ (∀ j x, m ≤ j → l[j]? = some x → x = 0) ∧ (∀ x, 0 < m → l[m - 1]? = some x → x ≠ 0) := by
  suffices H : ∀ k, k ≤ l.length → (∀ j x, k ≤ j → l[j]? = some x → x = 0) → ∃ m, m ≤ l.length ∧ (∀ j x, m ≤ j → l[j]? = some x → x = 0) ∧ (∀ x, 0 < m → l[m - 1]? = some x → x ≠ 0) from
    H l.length (Nat.le_refl _) (fun j x hj hx => by have := (List.getElem?_eq_some_iff.1 hx).1; omega)
  intro k
  induction k with
  | zero => exact fun _ h => ⟨0, Nat.zero_le _, h, fun x h0 => absurd h0 (by omega)⟩
  | succ k ih =>
    intro hk h
    by_cases h0 : l[k]? = some 0
    · refine ih (by omega) (fun j x hj hx => ?_)
      by_cases e : j = k
      · subst e; rw [h0] at hx; cases hx; rfl
      · exact h j x (by omega) hx
    · exact ⟨k + 1, hk, h, fun x _ hx e => h0 (by simpa [e] using hx)⟩
theorem take_limbs {l : List Nat} (hs : Sm l) : (limbs (val l)).length ≤ l.length ∧ l.take (limbs (val l)).length = limbs (val l) := by
  obtain ⟨m, h1, h2, h3⟩ := trim_ex l
  have h := limbs_take hs h1 h2 h3
  have hm : (limbs (val l)).length = m := by rw [← h, List.length_take_of_le h1]
  rw [hm]
  exact ⟨h1, h⟩
theorem trim_isN {k : IntKind} {w : World} {a : Option Addr} {c : Nat} {l : List Nat} (hs : Sm l) (h : Row w (.slice a l.length c) (ints k l)) : IsN k w (.slice a (limbs (val l)).length c) (val l) := by
  obtain ⟨h1, h2⟩ := take_limbs hs
  have := h.cut h1
  rw [ints_take, h2] at this
  exact this
theorem l_trim_to (w : World) (a : Option Addr) (c : Nat) (l : List Nat) (hs : Sm l) (h : Row w (.slice a l.length c) (ints .u64 l)) :
    Calls Tryz.prog 158 #[.slice a l.length c] w fun e w' => e = .returned (.slice a (limbs (val l)).length c) ∧ w' = w :=
  (l_trim_at w a c l hs h).mono fun e w' ⟨⟨m, he, hi⟩, hw⟩ => ⟨by rw [he]; have := hi.len.1; rw [ints_length] at this; rw [this], hw.symm⟩
theorem limbs_split {n m : Nat} {s : List Nat} (h : limbs n = s ++ limbs m) (hm : 0 < m) : limbs n = (s ++ [m % 1000000000]) ++ limbs (m / 1000000000) := by
  rw [h, limbs_pos hm, List.append_assoc]; rfl
set_option maxHeartbeats 2000000 in
theorem l_Of (w : World) (n : Nat) (hn : n < 18446744073709551616) : Calls Tryz.prog 200 #[.int .u64 n] w fun e w' => RetN .u64 n e w' ∧ Below w.heap.size w w' := by
  obtain ⟨i0, hi, hz0, hz1, hz2⟩ := info_parts info_u64
  have HN := hid hn
  have hn2 : (n : Int) ≤ 18446744073709551615 := by omega
  clear hn
  go_enter Tryz.func200, Tryz.ntmps200
  go_wp2_with fail
  go_loopw [0, 3] (fun nn o wr => ∃ (s : List Nat) (m : Nat), nn = .int .u64 m ∧ s.length ≤ 3 ∧ m ≤ n ∧ Hid (m = 0 ∨ s.length = 0 ∨ (s.length = 1 ∧ m < 18446744074) ∨ (s.length = 2 ∧ m < 19)) ∧ Hid (limbs n = s ++ limbs m) ∧ Hid (wr.ownsRow w.heap.size 147 1 o s.length (ints .u64 s)) ∧ Hid (Below w.heap.size w wr)) (fun nn _ _ => (intOf nn).toNat)
  case atStart => exact ⟨[], n, rfl, by simp, Nat.le_refl _, .inr (.inl rfl), rfl, World.ownsRow_nil _ _ _ _, Below.refl _ _⟩
  case round =>
    obtain ⟨s, m, rfl, hs, hmn, hc, hl, hO, hB⟩ := hrel
    obtain ⟨ao, co, rfl⟩ := owns_ex hO.out
    rcases Nat.eq_zero_or_pos m with h0 | h0
    · subst h0
      go_wp2_with fail
      go_ret
      exact ⟨⟨_, rfl, owns_isN hO.out (by have := hl.out; rw [limbs_zero, List.append_nil] at this; exact this.symm)⟩, hB.out⟩
    · have HL := hid (limbs_split hl.out h0)
      have hs2 : s.length ≤ 2 := by rcases hc.out with h | h | h | h <;> omega
      have HC := hid (show m / 1000000000 = 0 ∨ (s ++ [m % 1000000000]).length = 0 ∨ ((s ++ [m % 1000000000]).length = 1 ∧ m / 1000000000 < 18446744074) ∨ ((s ++ [m % 1000000000]).length = 2 ∧ m / 1000000000 < 19) from by
        have := HN.out
        rw [List.length_append, List.length_singleton]
        rcases hc.out with h | h | h | h <;> omega)
      have q0 : decide ((0 : Int) < (m : Int)) = true := by simp; omega
      go_wp2_with (at_builtin; refine wpList_append_own _ rfl _ _ 119 rfl w.heap.size 147 i0 (.int .u64 0) 1 8 Tryz.underlying119 hi hz0 hz1 hz2 rfl (by decide) _ s.length _ rfl (hO.out.alloc _) ⟨wr.heap.size, 0, none⟩ 1 1 [.int .u64 ((m : Int) % 1000000000)] rfl rfl (cell_one_new wr (.int .u64 ((m : Int) % 1000000000)) 147) (by simp [Value.oneCell']) (by unfold maxLen; omega) (by omega) (by have := hB.out.size; simp; omega) ?_; intro v' w3 hown3 hgrow3 _; have HO3 := hid hown3; have HG3 := hid hgrow3; clear hown3 hgrow3)
      obtain ⟨n1, n2⟩ := own_next (z := m % 1000000000) hO.out hB.out HO3.out HG3.out
      have N1 := hid n1; have N2 := hid n2; clear n1 n2 HO3 HG3
      obtain ⟨a3, k3, rfl⟩ := owns_ex N1.out
      go_wp2_with fail
      go_roundw
      case rel => exact ⟨s ++ [m % 1000000000], m / 1000000000, by go_num, by simp <;> omega, by omega, HC, HL, N1, N2⟩
      case measure => simp [intOf] <;> omega
end Go.Proofs.YtccalhlhdiapiaaGreatDoor
namespace Go.Proofs.YtccalhlhdiapiaaGreatDoor
open Go.RowKit
def Feeds {α : Type} (n : Nat) (P : Program) (g : Nat) (lb : Array Value) (encs : α → Array Value) (Kp : World → World → Prop) (Ok : List α → α → Prop) (S Sp : List α → Prop) (w : World) : Prop :=
  ∀ (l : Nat) (J Jx : List α → World → Prop) (W : World), Below w.heap.size w W → AbidesFrom W.heap.size J → AbidesFrom W.heap.size Jx →
    (∀ pre x W1, Ok pre x → J pre W1 → YieldAt Fence.wide (n - 1) P l (encs x) W1 fun e W2 =>
      (e = .returned (.bool true) ∧ J (pre ++ [x]) W2 ∧ Kp W1 W2) ∨ (e = .returned (.bool false) ∧ Jx (pre ++ [x]) W2)) →
    J [] W →
    CallsIn Fence.wide n P g (#[.func (.yield l) #[] #[]] ++ lb) W fun e W2 => (∃ v, e = .returned v) ∧ ((∃ xs, S xs ∧ J xs W2) ∨ (∃ pre, Sp pre ∧ Jx pre W2))
structure Kept (D : Nat) (r : Loop) (W : World) : Prop where
  loop : W.heap[D + 1]? = some (.loop r)
  calls : W.heap[D]? = some (.deferred (some []))
theorem Kept.cells {D : Nat} {r : Loop} {W W2 : World} {row : Option Nat} (h : Kept D r W) (hg : W.grownBy W2 row) (hr : ∀ k, row = some k → ∃ o : Obj, W.heap[k]? = some o ∧ o.isWalk = true) : Kept D r W2 :=
  ⟨(grownBy_keeps hg hr h.loop rfl).trans h.loop, (grownBy_keeps hg hr h.calls rfl).trans h.calls⟩
theorem Kept.put {D : Nat} {r : Loop} {W : World} (h : Kept D r W) (r2 : Loop) : Kept D r2 (W.putObj (D + 1) (.loop r2)) :=
  ⟨World.putObj_heap_same (Array.getElem?_eq_some_iff.1 h.loop).1, (World.putObj_heap_other (by omega)).trans h.calls⟩
theorem Kept.from {B D : Nat} {r : Loop} {W W2 : World} (h : Kept D r W) (k : KeepsFrom B W W2) (hB : B ≤ D) : Kept D r W2 :=
  ⟨k.same _ _ (by omega) h.loop rfl, k.same _ _ hB h.calls rfl⟩
theorem own_put {β : Type} {B D : Nat} {I : β → World → Prop} (hI : OwnFrom B I) {r : Loop} {s : β} {W : World} (h : Kept D r W) (hB : B ≤ D) (hs : I s W) (o : Obj) : I s (W.putObj (D + 1) o) :=
  hI.putObj o hs (by omega) h.loop rfl
theorem range_ok {α : Type} {P : Program} {n : Nat} {g : Operand} {ps : Array Tmp} {assign body : Code} {Q : Exit → Act → World → Prop} {a : Act} {w : World} (h1 : 1 ≤ n)
    {gf : Nat} {lb : Array Value} (hg : a.eval g = .func (.func gf) #[] lb) (eg : ∀ args w, (callFunc gf args).run P w = .ok (.enter gf args) w)
    {encs : α → Array Value} {Kp : World → World → Prop} {Ok : List α → α → Prop} {S Sp : List α → Prop} {w0 : World} (hseq : Feeds (n - 1) P gf lb encs Kp Ok S Sp w0)
    (hKt : ∀ {A B C : World}, Kp A B → Kp B C → Kp A C) (hKb : ∀ (W : World) (l : Nat) (o o2 : Obj), w.heap.size ≤ l → W.heap[l]? = some o → o.isCells = false → o.isWalk = false → Kp W (W.putObj l o2)) (hb0 : Below w0.heap.size w0 w) (hps : ∀ x, (encs x).size = ps.size)
    (I : List α → World → Prop) (Ix : Code → List α → World → Prop) (hI : OwnFrom w.heap.size I) (hIx : ∀ c, OwnFrom w.heap.size (Ix c)) (h0 : I [] w) (a1 : α → Act)
    (hassign : ∀ (l : Nat) (x : α) (W : World) (K : Act → World → Prop), K (a1 x) W →
      assign.wpIn (Fence.wide.inRound l) (n - 1 - 1) P (Exit.then K (fun _ _ _ => False)) { tmps := (ps.zip (encs x)).foldl (fun t (p, v) => t.setIfInBounds p v) a.tmps, defers := [] } W)
    (hbody : ∀ (l : Nat) (pre : List α) (x : α) (W : World), Ok pre x → I pre W → body.wpIn (Fence.wide.inRound l) (n - 1 - 1) P (ownPostG w.heap.size Kp I Ix (pre ++ [x]) W) (a1 x) W)
    (hdone : ∀ (D : Nat) (xs : List α) (W : World), w.heap.size ≤ D → S xs → I xs W → W.heap[D]? = some (.deferred (some [])) → Q .normal { a with defers := { target := .collected D, args := #[] } :: a.defers } W)
    (hstop : ∀ (D : Nat) (c : Code) (pre : List α) (W : World), w.heap.size ≤ D → Sp pre → Ix c pre W → W.heap[D]? = some (.deferred (some [])) → c.wpIn Fence.wide n P Q { a with defers := { target := .collected D, args := #[] } :: a.defers } W) :
    (Code.rangeFunc g ps assign body).wpIn Fence.wide n P Q a w := by
  refine wpIn_rangeFunc fun fn hfn => ?_
  obtain ⟨R, hR⟩ : ∃ R : LoopState → Option Code → Loop, ∀ s p, R s p = { state := s, pending := p, fn, tmps := a.tmps, params := ps, assign, body, defers := w.heap.size } := ⟨_, fun _ _ => rfl⟩
  have hs : ∀ s p, (R s p).state = s := fun s p => by rw [hR]
  obtain ⟨W1, e1⟩ : ∃ W1, W1 = (w.alloc (.deferred (some []))).alloc (.loop (R .ready none)) := ⟨_, rfl⟩
  have z1 : w.heap.size ≤ W1.heap.size := by rw [e1]; simp; omega
  have k1 : Kept w.heap.size (R .ready none) W1 := by
    rw [e1]
    refine ⟨?_, (Below.heap_alloc _ _ _ (by simp)).trans (World.alloc_heap_new w _)⟩
    have := World.alloc_heap_new (w.alloc (.deferred (some []))) (.loop (R .ready none))
    rwa [World.size_alloc] at this
  have i1 : I [] W1 := by rw [e1]; exact hI.alloc _ (hI.alloc _ h0)
  have b1 : Below w0.heap.size w0 W1 := by
    have : Below w.heap.size w W1 := by rw [e1]; exact ((Below.refl _ w).alloc (Nat.le_refl _) _).alloc (by simp) _
    exact hb0.trans (this.mono hb0.size)
  refine ⟨w.heap.size + 1, [{ target := .collected w.heap.size, args := #[] }], W1, { target := .fn (.func gf) lb, args := #[.func (.yield (w.heap.size + 1)) #[] #[]] }, W1, gf, #[.func (.yield (w.heap.size + 1)) #[] #[]] ++ lb, W1, ?_, ?_, fun f hf => trivial, ?_, fun _ => h1, ?_⟩
  · have := run_enterLoop_outer (P := P) (w := w) fn a.tmps ps assign body
    rw [e1, hR]; exact this
  · simp only [resolve, hg]
    simp [go_sem]
  · simp [invoke, go_sem, eg]
  · refine (hseq (w.heap.size + 1) (fun pre W => I pre W ∧ Kept w.heap.size (R .ready none) W) (fun pre W => ∃ c, Ix c pre W ∧ Kept w.heap.size (R .done (some c)) W) W1 b1
      (fun s A B row hs hg2 hr => ⟨hI s A B row hs.1 hg2 (fun k e => ?_), hs.2.cells hg2 (fun k e => (hr k e).2)⟩)
      (fun s A B row hs hg2 hr => ?_) (fun pre x W hok hJ => ?_) ⟨i1, k1⟩).mono ?_
    · obtain ⟨h2, o, h3, h4⟩ := hr k e
      exact ⟨Nat.le_trans z1 h2, o, h3, Obj.not_cells_of_walk h4⟩
    · obtain ⟨c, hc, hk⟩ := hs
      refine ⟨c, hIx c s A B row hc hg2 (fun k e => ?_), hk.cells hg2 (fun k e => (hr k e).2)⟩
      obtain ⟨h2, o, h3, h4⟩ := hr k e
      exact ⟨Nat.le_trans z1 h2, o, h3, Obj.not_cells_of_walk h4⟩
    · obtain ⟨hi, hk⟩ := hJ
      have hy := run_yield (P := P) (args := encs x) hk.loop (by rw [hR]; exact hps x)
      have kb := hk.put (R .busy none)
      have bg := run_beginRound (P := P) hk.loop (hs _ _)
      rw [show ({ R .ready none with state := .busy } : Loop) = R .busy none by rw [hR, hR]] at bg
      have kk : Kp W (W.putObj (w.heap.size + 1) (.loop (R .busy none))) := hKb _ _ _ _ (by omega) hk.loop rfl rfl
      rw [hR] at hy
      refine ⟨fn, _, assign, body, hy, roundIn_of_wpIn hfn (hassign _ x W _ ⟨_, bg, ?_⟩)⟩
      refine wpIn_mono (hbody _ pre x _ hok (own_put hI hk (Nat.le_refl _) hi _)) ?_
      have fin : ∀ (j : Option Code) (W3 : World), Kept w.heap.size (R .busy none) W3 → (Instr.endRound (w.heap.size + 1) j).run P W3 = .ok (.bool j.isNone) (W3.putObj (w.heap.size + 1) (.loop (R (if j.isNone then .ready else .done) j))) := fun j W3 h3 => by
        have := run_endRound (P := P) j h3.loop
        rw [this, hR, hR]
      rintro e a3 W3 hp
      cases e with
      | normal =>
        obtain ⟨p1, p2, p3⟩ := hp
        have k3 := kb.from p1 (Nat.le_refl _)
        exact ⟨_, _, fin none W3 k3, .inl ⟨rfl, ⟨own_put hI k3 (Nat.le_refl _) p3 _, k3.put _⟩, hKt (hKt kk p2) (hKb _ _ _ _ (by omega) k3.loop rfl rfl)⟩⟩
      | ret =>
        have k3 := kb.from hp.1 (Nat.le_refl _)
        exact ⟨_, _, fin (some .ret) W3 k3, .inr ⟨rfl, .ret, own_put (hIx _) k3 (Nat.le_refl _) hp.2 _, k3.put _⟩⟩
      | exit id =>
        have k3 := kb.from hp.1 (Nat.le_refl _)
        exact ⟨_, _, fin (some (.exit id)) W3 k3, .inr ⟨rfl, .exit id, own_put (hIx _) k3 (Nat.le_refl _) hp.2 _, k3.put _⟩⟩
      | goto t =>
        have k3 := kb.from hp.1 (Nat.le_refl _)
        exact ⟨_, _, fin (some (.goto t)) W3 k3, .inr ⟨rfl, .goto t, own_put (hIx _) k3 (Nat.le_refl _) hp.2 _, k3.put _⟩⟩
      | panic ch => exact hp.elim
      | outgrown => exact hp.elim
    · have en : ∀ {s p W2}, Kept w.heap.size (R s p) W2 → s ≠ .busy → (Instr.endLoop (w.heap.size + 1)).run P W2 = .ok p (W2.putObj (w.heap.size + 1) (.loop (R .exhausted p))) := fun {s p W2} h2 hne => by
        have := run_endLoop (P := P) h2.loop (by rw [hs]; exact hne)
        rw [this, hR, hR]
      rintro e W2 ⟨⟨v, rfl⟩, ⟨xs, hS, hi, hk⟩ | ⟨pre, hSp, c, hi, hk⟩⟩
      · exact ⟨none, _, en hk (by simp), hdone _ xs _ (Nat.le_refl _) hS (own_put hI hk (Nat.le_refl _) hi _) (hk.put (R .exhausted none)).calls⟩
      · exact ⟨some c, _, en hk (by simp), hstop _ c pre _ (Nat.le_refl _) hSp (own_put (hIx c) hk (Nat.le_refl _) hi _) (hk.put (R .exhausted (some c))).calls⟩
def noDefer (l : List Oper) : Bool := l.all fun o => match o.op with | .defer _ => false | _ => true
theorem noDefer_at {l : List Oper} (h : noDefer l = true) {i : Nat} {o : Oper} (ho : l.toArray[i]? = some o) : ∀ c, o.op ≠ .defer c := by
  intro c e
  rw [List.getElem?_toArray] at ho
  have := List.all_eq_true.1 h o (List.mem_of_getElem? ho)
  rw [e] at this
  cases this
theorem upon_round {F : Fence} {n : Nat} {P : Program} {o : Oper} {a : Act} {next : Act → World → Prop} {Q : Exit → Act → World → Prop} (l : Nat) : ∀ r : Result Next, o.uponIn F n P a next Q r → o.uponIn (F.inRound l) n P a next Q r
  | .ok (.value _) _, h => h
  | .ok .skip _, h => h
  | .ok (.defer _) _, h => h
  | .ok (.enter _ _) _, h => h
  | .ok (.row _ _) _, h => h
  | .ok (.round _ _ _ _ _) _, h => h
  | .halt (.panic _) _, h => h
  | r, h => by
    unfold Oper.uponIn at *
    split at h <;> first | exact h | (exfalso; exact h)
theorem any_round {F : Fence} {n : Nat} {P : Program} {l : List Oper} {Q : Exit → Act → World → Prop} {md : Region.Mode} (hro : F.round = none) (hd : noDefer l = true) (l0 : Nat) : ∀ (fuel : Nat) (listed : Array Bool) (a : Act) (w : World),
    wpAnyIn F n P md l.toArray Q fuel listed a w → wpAnyIn (F.inRound l0) n P md l.toArray Q fuel listed a w := by
  intro fuel
  induction fuel with
  | zero => exact fun _ _ _ h => h
  | succ fuel ih =>
    rintro listed a w ⟨h1, h2⟩
    refine ⟨h1, fun i hi => ?_⟩
    have h := h2 i hi
    unfold wpOpIn at *
    split at h
    · exact ih _ _ _ h
    · rename_i o he
      split at h
      · rename_i hw
        rw [if_pos hw]
        refine ⟨h.1, ?_⟩
        have h3 := (Oper.wpIn_mono (K' := wpAnyIn (F.inRound l0) n P md l.toArray Q fuel (listed.setIfInBounds i true)) (fun a w h => ih _ a w h) h).2
        rw [hro, Oper.semAt_none] at h3
        rw [Fence.inRound_round, Oper.semAt_some l0 _ o (noDefer_at hd he)]
        exact upon_round l0 _ h3
      · rename_i hw
        rw [if_neg hw]
        exact ⟨h.1, ih _ _ _ h.2⟩
theorem quiet_round {n : Nat} {P : Program} {id : Nat} {Q : Exit → Act → World → Prop} {a : Act} {w : World} {l : List Oper} {l0 : Nat} (hm : P.follows .mixedOrders = true) (hB : Region.lexB .any l.toArray = true) (hd : noDefer l = true)
    (h : wpQuietIn Fence.wide n P l.toArray (fun w' => ∃ n, w' = w.drewN n) (fun a' => ∀ w', (∃ n, w' = w.drewN n) → Q .normal a' w') l a) : (Code.region id l.toArray true).wpIn (Fence.wide.inRound l0) n P Q a w := by
  have hB2 := hB
  simp only [Region.lexB, Bool.and_eq_true] at hB2
  refine wpIn_region_any hm (any_round rfl hd l0 _ _ _ _ (wpAnyIn_of_quiet (C := fun w' => ∃ n, w' = w.drewN n) (Q := fun a' => ∀ w', (∃ n, w' = w.drewN n) → Q .normal a' w') rfl (fun _ w' hw' h => h w' hw') _ _ _ _ ⟨1, rfl⟩ ?_))
  have := wpAnyQIn_lex (F := Fence.wide) (n := n) (C := fun w' => ∃ n, w' = w.drewN n) (md := .any) hB2.1 l.toArray.toList 0 (Array.replicate l.toArray.size false) a (by simp) (by simpa using hB2.2) (by simpa using h)
  simpa using this
end Go.Proofs.YtccalhlhdiapiaaGreatDoor
namespace Go.Proofs.YtccalhlhdiapiaaGreatDoor
open Go.RowKit Go.Shelf
set_option linter.unusedVariables false
attribute [local go_sem] Oper.semAt_some
set_option maxRecDepth 100000 in
set_option maxHeartbeats 2000000 in
theorem back_feeds {Kp : World → World → Prop} {V : Nat → Int → Prop} (n : Nat) (hn : 1 ≤ n) (Bs len cap : Nat) (a : Option Addr) (hlen : len ≤ 9000000000000000000) (hcap : len ≤ cap) (w : World) (hKr : ∀ W, Kp W W) (hKt : ∀ {A B C : World}, Kp A B → Kp B C → Kp A C)
    (hread : ∀ W1 W2, Below w.heap.size w W1 → Kp W1 W2 → W2.cell? ⟨Bs, 0, none⟩ = some (.slice a len cap) ∧ ∀ i, i < len → ∃ g o z, a = some ⟨g, o, none⟩ ∧ W2.cell? ⟨g, o + i, none⟩ = some (.int .u64 z) ∧ V i z) :
    Feeds n Tryz.prog 194 #[.pointer (some ⟨Bs, 0, none⟩)] (fun x : Nat × Int => #[.int .i64 (x.1 : Int), .int .u64 x.2]) Kp (fun pre x => x.1 + 1 + pre.length = len ∧ V x.1 x.2) (fun xs => xs.length = len) (fun _ => True) w := by
  intro l J Jx W hW hJ hJx hY h0
  obtain ⟨hb0, -⟩ := hread W W hW (hKr W)
  have HR := hid hread; have HY := hid hY; have HW := hid hW; have HJ := hid hJ; have HJx := hid hJx
  have HKr := hid hKr; have HKt : Hid (∀ A B C : World, Kp A B → Kp B C → Kp A C) := fun A B C h k => hKt h k
  clear hread hY hW hJ hJx hKr hKt
  refine callsIn_of_wp Tryz.func194 rfl trivial ?_ rfl
  simp only [Tryz.ntmps194, List.size_toArray, List.length_cons, List.length_nil, Nat.reduceAdd, Nat.reduceSub, Array.replicate_succ, Array.replicate_zero, List.push_toArray, List.append_toArray, List.nil_append, List.cons_append]
  gi_wp2
  clear hb0
  gi_loopw [3] (fun i wr => ∃ (k : Nat) (t : Int) (pre : List (Nat × Int)), i = .int .i64 t ∧ t = (k : Int) - 1 ∧ k ≤ len ∧ Hid (pre.length + k = len) ∧ J pre wr ∧ Hid (Kp W wr))
    (fun i _ => (intOf i + 1).toNat)
  case atStart => exact ⟨len, _, [], rfl, rfl, Nat.le_refl _, by rw [Hid]; simp, h0, HKr.out W⟩
  case round =>
    obtain ⟨k, t, pre, rfl, ht, hk, hp, hJs, hK⟩ := hrel
    cases k with
    | zero =>
      obtain rfl : t = -1 := by omega
      clear ht
      gi_wp2
      go_end0
      exact ⟨⟨_, rfl⟩, .inl ⟨pre, by have := hp.out; omega, hJs⟩⟩
    | succ j =>
      obtain rfl : t = (j : Int) := by omega
      clear ht
      obtain ⟨hb, hc⟩ := HR.out W wr HW.out hK.out
      obtain ⟨g, o, z, rfl, hcell, hV⟩ := hc j (by omega)
      clear hc
      obtain ⟨fn, tmps, assign, body, hy, hR⟩ := HY.out pre (j, z) wr ⟨by have := hp.out; omega, hV⟩ hJs
      dsimp only at hy
      have HV := hid hV; clear hV
      gi_wp2
      refine hR.mono ?_
      rintro e W3 (⟨rfl, hJ3, hk3⟩ | ⟨rfl, hJx3⟩)
      · have HK3 := hid (HKt.out _ _ _ hK.out hk3)
        clear hk3
        gi_wp2
        go_roundw
        case rel => exact ⟨j, _, pre ++ [(j, z)], rfl, rfl, by omega, by rw [Hid]; have := hp.out; simp; omega, hJ3, HK3⟩
        case measure => simp [intOf] <;> omega
      · gi_wp2
        refine bodyPost_ret (results_none rfl _ _ _) rfl ?_
        exact ⟨⟨_, rfl⟩, .inr ⟨_, trivial, hJx3⟩⟩
theorem back_call (a : Option Addr) (len cap : Nat) (w : World) :
    Calls Tryz.prog 154 #[.slice a len cap] w fun e w' => e = .returned (.func (.func 194) #[] #[.pointer (some ⟨w.heap.size, 0, none⟩)]) ∧ w' = w.alloc (.cells #[.slice a len cap] 119) := by
  go_enter Tryz.func154, Tryz.ntmps154
  go_wp2_with fail
  go_ret
  exact ⟨rfl, rfl⟩
def KpB (n0 bs : Nat) (W W2 : World) : Prop := Below n0 W W2 ∧ W2.heap[bs]? = W.heap[bs]?
theorem KpB.refl (n0 bs : Nat) (W : World) : KpB n0 bs W W := ⟨Below.refl _ _, rfl⟩
theorem KpB.trans {n0 bs : Nat} {A B C : World} (h : KpB n0 bs A B) (k : KpB n0 bs B C) : KpB n0 bs A C := ⟨h.1.trans k.1, k.2.trans h.2⟩
theorem KpB.put {n0 bs : Nat} {w : World} (hn : n0 ≤ w.heap.size) (hb : bs < w.heap.size) (W : World) (l : Nat) (o o' : Obj) (hl : w.heap.size ≤ l) (h : W.heap[l]? = some o) (h1 : o.isCells = false) (h2 : o.isWalk = false) : KpB n0 bs W (W.putObj l o') :=
  ⟨belowK_b hn W l o o' hl h h1 h2, World.putObj_heap_other (by omega)⟩
theorem KpB.blk {n0 bs : Nat} {W W2 : World} (h : KpB n0 bs W W2) {cs : Array Value} {t : TypeId} (hb : Blk W bs cs t) : Blk W2 bs cs t := h.2.trans hb
theorem Blk.kept {W W2 : World} {b : Nat} {cs : Array Value} {t : TypeId} {row : Option Nat} (h : Blk W b cs t) (hg : W.grownBy W2 row) (hr : ∀ r, row = some r → ∃ o : Obj, W.heap[r]? = some o ∧ o.isCells = false) : Blk W2 b cs t := by
  refine h.grown hg (fun e => ?_)
  obtain ⟨o, ho, hc⟩ := hr b e
  unfold Blk at h
  rw [h] at ho
  cases ho
  cases hc
theorem marks_end {n : Nat} {P : Program} {fn : Func} {R : Ending → World → Prop} {tmps : Array Value} {W : World} {D : Nat} {v : Value} (hK : W.heap[D]? = some (.deferred (some [])))
    (hv : (results fn tmps).run P (W.putObj D (.deferred none)) = .ok v (W.putObj D (.deferred none))) (hR : R (.returned v) (W.putObj D (.deferred none))) :
    bodyPostM Fence.wide n P fn R .ret { tmps := tmps, defers := [{ target := .collected D, args := #[] }] } W :=
  ⟨by simp, .inl ⟨_, _, rfl, run_takeDeferred hK, ⟨v, hv, hR⟩⟩⟩
theorem Blk.put {W : World} {b D : Nat} {cs : Array Value} {t : TypeId} (h : Blk W b cs t) (hK : W.heap[D]? = some (.deferred (some []))) (o : Obj) : Blk (W.putObj D o) b cs t :=
  h.kept (grownBy_putObj' _ D o) (fun r e => by cases e; exact ⟨_, hK, rfl⟩)
theorem Row.put {W : World} {D : Nat} {v : Value} {xs : List Value} (h : Row W v xs) (hK : W.heap[D]? = some (.deferred (some []))) (o : Obj) : Row (W.putObj D o) v xs := by
  obtain ⟨a, c, rfl, h1, h2, h3⟩ := h.ex
  refine ⟨a, c, rfl, h1, h2, fun i x hx => ?_⟩
  obtain ⟨g, og, e, hg, hc⟩ := h3 i x hx
  have hgb := grownBy_putObj' W D o
  exact ⟨g, og, e, Nat.lt_of_lt_of_le hg hgb.size, cell_kept hc hgb (fun r e => by cases e; exact ⟨_, hK, rfl⟩)⟩
theorem IsN.put {k : IntKind} {W : World} {D : Nat} {v : Value} {n : Nat} (h : IsN k W v n) (hK : W.heap[D]? = some (.deferred (some []))) (o : Obj) : IsN k (W.putObj D o) v n := Row.put h hK o
end Go.Proofs.YtccalhlhdiapiaaGreatDoor
namespace Go.Proofs.YtccalhlhdiapiaaGreatDoor
open Go.RowKit Go.Shelf
set_option linter.unusedVariables false
theorem last_limb {a n : Nat} (hn : (limbs a).length = n + 1) : ∃ x, (limbs a)[n]? = some x ∧ x < 1000000000 ∧ 0 < x ∧ Lib.nDigits a = 9 * n + Lib.nDigits x ∧ val ((limbs a).drop n) = x := by
  have hne : limbs a ≠ [] := fun e => by simp [e] at hn
  obtain ⟨x, hx⟩ : ∃ x, (limbs a)[n]? = some x := ⟨_, List.getElem?_eq_getElem (by omega)⟩
  have hl : (limbs a).getLast hne = x := by
    have h := List.getElem?_eq_some_iff.1 hx
    obtain ⟨h1, h2⟩ := h
    rw [List.getLast_eq_getElem hne, ← h2]
    congr 1
    omega
  have hx' : (limbs a).getLast? = some x := by rw [List.getLast?_eq_some_getLast hne, hl]
  have hp := limbs_last a x hx'
  refine ⟨x, hx, (sm_limbs a).get hx, by omega, ?_, ?_⟩
  · have := nDigits_limbs (sm_limbs a) hne (limbs_last a)
    rw [val_limbs, hl, hn] at this
    simpa using this
  · rw [List.drop_eq_getElem_cons (by omega), List.drop_of_length_le (by omega)]
    have h := List.getElem?_eq_some_iff.1 hx
    obtain ⟨h1, h2⟩ := h
    rw [h2]
    simp [val]
set_option maxRecDepth 100000 in
set_option maxHeartbeats 4000000 in
theorem l_Digits (w : World) (v : Value) (a : Nat) (ha : IsN .u64 w v a) (hL : Lay w) (hla : (limbs a).length ≤ 1000000) :
    Calls Tryz.prog 156 #[v] w fun e w' => e = .returned (.int .i64 (Lib.nDigits a : Nat)) ∧ Below w.heap.size w w' := by
  obtain ⟨a1, c1, rfl, h1, h2, h3⟩ := ha.openI
  have H3 := hid h3; clear h3 ha
  by_cases h0 : (limbs a).length = 0
  · rw [h0]
    have ea : a = 0 := limbs_nil.1 (List.eq_nil_of_length_eq_zero h0)
    go_enter Tryz.func156, Tryz.ntmps156
    go_wp2_with fail
    go_ret
    refine ⟨?_, Below.refl _ _⟩
    rw [ea, show Lib.nDigits 0 = 1 by rw [Lib.nDigits_small (by omega)]]
    rfl
  · obtain ⟨n, ea⟩ : ∃ n, (limbs a).length = n + 1 := ⟨(limbs a).length - 1, by omega⟩
    obtain ⟨x, hx, hx1, hx2, hd, -⟩ := last_limb ea
    obtain ⟨g, o, rfl, hg, hc⟩ := H3.out n x hx
    rw [ea] at h1 hla ⊢
    have hw1 : IntKind.i64.wrap (((n + 1 : Nat) : Int) - 1) = (n : Int) := by rw [IntWalk.i64_in _ ⟨by omega, by omega⟩]; omega
    have hw2 : IntKind.i64.wrap (9 * (n : Int)) = 9 * (n : Int) := IntWalk.i64_in _ ⟨by omega, by omega⟩
    have hdl : Lib.nDigits x ≤ 9 := nDigits_le (by omega) (by omega)
    have hw3 : IntKind.i64.wrap (9 * (n : Int) + ((Lib.nDigits x : Nat) : Int)) = ((Lib.nDigits a : Nat) : Int) := by rw [IntWalk.i64_in _ ⟨by omega, by omega⟩]; omega
    have hlen : (Lib.decDigits x).length = Lib.nDigits x := Lib.decDigits_length x
    clear hd hdl
    go_enter Tryz.func156, Tryz.ntmps156
    go_wp2_with (first
      | (go_at_call 196; refine (l_fmt _ x (by omega) hL).mono ?_; rintro e w' ⟨rfl, hb⟩)
      | fail)
    go_ret
    exact ⟨rfl, hb⟩
#print axioms l_Digits
end Go.Proofs.YtccalhlhdiapiaaGreatDoor
namespace Go.Proofs.YtccalhlhdiapiaaGreatDoor
open Go.RowKit
variable {P : Program} {ops : Array Oper} {oz : Oper} {Q Q' : Exit → Act → World → Prop} {md : Region.Mode}
theorem wp_turn {o : Oper} {a : Act} {w : World} {K K' : Act → World → Prop} (hK : ∀ a w, K a w → K' a w) (hP : ∀ c a w, Q' (.panic c) a w → Q (.panic c) a w) (hL : LetsOut Q' → LetsOut Q)
    (h : o.wp P a w K Q') : o.wp P a w K' Q := by
  unfold Oper.wp at *
  generalize (execOp a.eval o).run P w = r at *
  cases r with
  | ok n w' =>
    cases n <;> simp only [Oper.upon] at h ⊢
    case value u => exact hK _ _ h
    case skip => exact hK _ _ h
    case defer d => exact hK _ _ h
    case enter f args =>
      refine Calls.mono h fun e w'' he => ?_
      cases e with
      | returned u => exact hK _ _ he
      | panicked c => exact hP _ _ _ he
      | outgrown => exact hL he
    case row row args => exact Rows.mono h fun u w'' he => hK _ _ he
  | halt x w' =>
    cases x <;> simp only [Oper.upon] at h ⊢
    case panic u => exact hP _ _ _ h
def AllOn (n : Nat) (listed : Array Bool) : Prop := ∀ i, i < n → listed.getD i false = true
theorem all_of_none (hfwd : ∀ i o, ops[i]? = some o → ∀ e ∈ o.after, Region.binds md e = true → e.on < i) {listed : Array Bool} (hs : listed.size = ops.size) (hr : Region.ready md ops listed = []) : AllOn ops.size listed := by
  intro i
  induction i using Nat.strongRecOn with
  | _ i ih =>
    intro hi
    refine Decidable.byContradiction fun hn => ?_
    have hm : i ∈ Region.ready md ops listed := by
      rw [mem_ready]
      refine ⟨?_, ops[i], Array.getElem?_eq_getElem hi, fun e he hb => ih e.on (hfwd i _ (Array.getElem?_eq_getElem hi) e he hb) (by have := hfwd i _ (Array.getElem?_eq_getElem hi) e he hb; omega)⟩
      have h1 : i < listed.size := by omega
      simp [Array.getD, h1] at hn ⊢
      exact hn
    rw [hr] at hm
    cases hm
def Closed (md : Region.Mode) (ops : Array Oper) (listed : Array Bool) : Prop := ∀ j o, ops[j]? = some o → listed.getD j false = true → ∀ e ∈ o.after, Region.binds md e = true → listed.getD e.on false = true
def Waits (md : Region.Mode) (ops : Array Oper) (oz : Oper) (i : Nat) : Prop :=
  ∃ e ∈ oz.after, Region.binds md e = true ∧ (e.on = i ∨ ∃ o, ops[e.on]? = some o ∧ ∃ f ∈ o.after, Region.binds md f = true ∧ f.on = i)
theorem Closed.set {listed : Array Bool} {i : Nat} (h : Closed md ops listed) (hi : i ∈ Region.ready md ops listed) : Closed md ops (listed.setIfInBounds i true) := by
  intro j o ho hj e he hb
  rw [mem_ready] at hi
  obtain ⟨_, o', ho', hall⟩ := hi
  by_cases hji : i = j
  · subst hji
    rw [ho] at ho'
    cases ho'
    exact getD_set_true (hall e he hb)
  · have hj' := hj
    rw [getD_set_ne false hji] at hj'
    exact getD_set_true (h j o ho hj' e he hb)
theorem getD_push_lt {listed : Array Bool} {b : Bool} {i : Nat} {d : Bool} (h : i < listed.size) : (listed.push b).getD i d = listed.getD i d := by
  simp [Array.getD, h, Nat.lt_succ_of_lt h, Array.getElem_push_lt h]
theorem ready_push_all {listed : Array Bool} (hs : listed.size = ops.size) (hall : AllOn ops.size listed) :
    ∀ j, j ∈ Region.ready md (ops.push oz) (listed.push false) → j = ops.size := by
  intro j hj
  rw [mem_ready] at hj
  obtain ⟨h0, o, ho, _⟩ := hj
  have hlt : j < ops.size + 1 := by have := (Array.getElem?_eq_some_iff.1 ho).1; simpa using this
  refine Decidable.byContradiction fun hne => ?_
  have hj' : j < ops.size := by omega
  rw [getD_push_lt (by omega)] at h0
  have := hall j hj'
  have h1 : j < listed.size := by omega
  simp [Array.getD, h1] at h0 this
  rw [h0] at this; cases this
theorem ready_push_some (hz : ∀ e ∈ oz.after, Region.binds md e = true → e.on < ops.size) (hz2 : ∀ i, i < ops.size → Waits md ops oz i) (hfwd : ∀ i o, ops[i]? = some o → ∀ e ∈ o.after, Region.binds md e = true → e.on < i) {listed : Array Bool} (hs : listed.size = ops.size) (hcl : Closed md ops listed) (hn : ¬ AllOn ops.size listed) :
    ∀ j, j ∈ Region.ready md (ops.push oz) (listed.push false) → j ∈ Region.ready md ops listed := by
  intro j hj
  rw [mem_ready] at hj ⊢
  obtain ⟨h0, o, ho, hall⟩ := hj
  have hlt : j < ops.size + 1 := by have := (Array.getElem?_eq_some_iff.1 ho).1; simpa using this
  by_cases hj' : j = ops.size
  · subst hj'
    have : o = oz := by simpa using ho.symm
    subst this
    exact absurd (fun i hi => by
      obtain ⟨e, he, hb, hon⟩ := hz2 i hi
      have h1 := hall e he hb
      have h2 := hz e he hb
      rw [getD_push_lt (by omega)] at h1
      rcases hon with rfl | ⟨o', ho', f, hf, hfb, rfl⟩
      · exact h1
      · exact hcl _ o' ho' h1 f hf hfb) hn
  · have hjl : j < ops.size := by omega
    rw [Array.getElem?_push_lt hjl] at ho
    rw [getD_push_lt (by omega)] at h0
    refine ⟨h0, o, by rw [Array.getElem?_eq_getElem hjl]; exact ho, fun e he hb => ?_⟩
    have h1 := hall e he hb
    have h2 := hfwd j o (by rw [Array.getElem?_eq_getElem hjl]; exact ho) e he hb
    rwa [getD_push_lt (by omega)] at h1
theorem set_push {listed : Array Bool} {i : Nat} (h : i < listed.size) : (listed.push false).setIfInBounds i true = (listed.setIfInBounds i true).push false := by
  apply Array.ext_getElem?
  intro k
  simp only [Array.getElem?_setIfInBounds, Array.getElem?_push, Array.size_push, Array.size_setIfInBounds]
  by_cases hk : i = k
  · subst hk; simp [h, Nat.lt_succ_of_lt h]; omega
  · simp [hk]
theorem wpAny_last (hgd : ∀ (i : Nat) (o : Oper), ops[i]? = some o → o.guard = none) (hgz : oz.guard = none)
    (hz : ∀ e ∈ oz.after, Region.binds md e = true → e.on < ops.size) (hz2 : ∀ i, i < ops.size → Waits md ops oz i)
    (hfwd : ∀ i o, ops[i]? = some o → ∀ e ∈ o.after, Region.binds md e = true → e.on < i)
    (hP : ∀ c a w, Q' (.panic c) a w → Q (.panic c) a w) (hL : LetsOut Q' → LetsOut Q) (hN : ∀ a w, Q' .normal a w → oz.wp P a w (fun a w => Q .normal a w) Q ∨ (oz.asks P a w ∧ LetsOut Q)) :
    ∀ (fuel : Nat) (listed : Array Bool) (a : Act) (w : World), listed.size = ops.size → Closed md ops listed → wpAny P md ops Q' fuel listed a w → wpAny P md (ops.push oz) Q (fuel + 1) (listed.push false) a w := by
  have lastStep : ∀ (fuel : Nat) (listed : Array Bool) (a : Act) (w : World), listed.size = ops.size → AllOn ops.size listed → Q' .normal a w → wpAny P md (ops.push oz) Q (fuel + 1) (listed.push false) a w := by
    intro fuel listed a w hs hall hq
    have hmem : ops.size ∈ Region.ready md (ops.push oz) (listed.push false) := by
      rw [mem_ready]
      refine ⟨by rw [← hs]; simp [Array.getD], oz, by simp, fun e he hb => ?_⟩
      have := hz e he hb
      rw [getD_push_lt (by omega)]
      exact hall _ this
    refine ⟨fun h => (by rw [h] at hmem; cases hmem), fun j hj => ?_⟩
    have hje := ready_push_all hs hall j hj
    subst hje
    have hdone : Region.ready md (ops.push oz) ((listed.push false).setIfInBounds ops.size true) = [] := by
      refine List.eq_nil_iff_forall_not_mem.2 fun k hk => ?_
      rw [mem_ready] at hk
      obtain ⟨h0, o, ho, _⟩ := hk
      have hlt : k < ops.size + 1 := by have := (Array.getElem?_eq_some_iff.1 ho).1; simpa using this
      by_cases hk' : k = ops.size
      · subst hk'; simp [Array.getD, hs] at h0
      · have h1 : k < ops.size := by omega
        have h2 := hall k h1
        have h3 : k < listed.size := by omega
        simp [Array.getD, h3, Nat.lt_succ_of_lt h3, Ne.symm hk', Array.getElem_push_lt h3] at h0 h2
        rw [h0] at h2; cases h2
    unfold wpOp
    simp only [Array.getElem?_push_size]
    have hw : Region.wanted oz (yielded (ops.push oz) a.tmps) = true := by simp [Region.wanted, hgz]
    rw [if_pos hw]
    refine (hN a w hq).imp (fun hx => Oper.wp_mono (fun a' w' h' => ?_) hx) id
    cases fuel with
    | zero => exact ⟨hdone, h'⟩
    | succ fuel => exact ⟨fun _ => h', fun k hk => by rw [hdone] at hk; cases hk⟩
  intro fuel
  induction fuel with
  | zero =>
    intro listed a w hs _ h
    exact lastStep 0 listed a w hs (all_of_none hfwd hs h.1) h.2
  | succ fuel ih =>
    intro listed a w hs hcl h
    by_cases hall : AllOn ops.size listed
    · refine lastStep (fuel + 1) listed a w hs hall (h.1 (List.eq_nil_iff_forall_not_mem.2 fun k hk => ?_))
      rw [mem_ready] at hk
      obtain ⟨h0, o, ho, _⟩ := hk
      have h1 := (Array.getElem?_eq_some_iff.1 ho).1
      have h2 := hall k h1
      have h3 : k < listed.size := by omega
      simp [Array.getD, h3] at h0 h2
      rw [h0] at h2; cases h2
    · refine ⟨fun hr => ?_, fun j hj => ?_⟩
      · have : Region.ready md ops listed = [] := List.eq_nil_iff_forall_not_mem.2 fun k hk => by
          have hk2 : k ∈ Region.ready md (ops.push oz) (listed.push false) := by
            rw [mem_ready] at hk ⊢
            obtain ⟨h0, o, ho, hh⟩ := hk
            have h1 := (Array.getElem?_eq_some_iff.1 ho).1
            refine ⟨by rw [getD_push_lt (by omega)]; exact h0, o, by rw [Array.getElem?_push_lt h1, ← Array.getElem?_eq_getElem h1]; exact ho, fun e he hb => ?_⟩
            rw [getD_push_lt (by have := hfwd k o ho e he hb; omega)]
            exact hh e he hb
          rw [hr] at hk2; cases hk2
        exact absurd (all_of_none hfwd hs this) hall
      · have hj' := ready_push_some hz hz2 hfwd hs hcl hall j hj
        have h1 := h.2 j hj'
        have hlt : j < ops.size := by
          rw [mem_ready] at hj'
          obtain ⟨_, o, ho, _⟩ := hj'
          exact (Array.getElem?_eq_some_iff.1 ho).1
        unfold wpOp at h1 ⊢
        rw [Array.getElem?_push_lt hlt]
        rw [Array.getElem?_eq_getElem hlt] at h1
        simp only at h1 ⊢
        have hg := hgd j _ (Array.getElem?_eq_getElem hlt)
        have hw1 : Region.wanted ops[j] (yielded (ops.push oz) a.tmps) = true := by simp [Region.wanted, hg]
        have hw2 : Region.wanted ops[j] (yielded ops a.tmps) = true := by simp [Region.wanted, hg]
        rw [if_pos hw1]
        rw [if_pos hw2] at h1
        rcases h1 with h1 | ⟨h1, h2⟩
        · refine .inl (wp_turn (fun a' w' h' => ?_) hP hL h1)
          rw [set_push (by omega)]
          exact ih _ _ _ (by simp [hs]) (hcl.set hj') h'
        · exact .inr ⟨h1, hL h2⟩
def splitB (ops : Array Oper) (oz : Oper) : Bool :=
  ops.toList.all (fun o => o.guard.isNone) && oz.guard.isNone && oz.after.toList.all (fun e => decide (e.on < ops.size)) &&
  (List.range ops.size).all (fun i => oz.after.toList.any fun e => Region.binds .any e && (e.on == i || (match ops[e.on]? with | some o => o.after.toList.any (fun f => Region.binds .any f && f.on == i) | none => false))) &&
  (List.range ops.size).all (fun i => match ops[i]? with | some o => o.after.toList.all (fun e => decide (e.on < i)) | none => true)
section
variable {F : Fence} {n : Nat}
theorem wpIn_turn {o : Oper} {a : Act} {w : World} {K K' : Act → World → Prop} (hK : ∀ a w, K a w → K' a w) (hP : ∀ c a w, Q' (.panic c) a w → Q (.panic c) a w) (hL : LetsOut Q' → LetsOut Q)
    (h : o.wpIn F n P a w K Q') : o.wpIn F n P a w K' Q := by
  unfold Oper.wpIn at *
  refine ⟨h.1, ?_⟩
  have h := h.2
  generalize (o.semAt F.round a.eval).run P w = r at *
  cases r with
  | ok m w' =>
    cases m <;> simp only [Oper.uponIn] at h ⊢
    case value u => exact hK _ _ h
    case skip => exact hK _ _ h
    case defer d => exact hK _ _ h
    case enter f args =>
      refine ⟨h.1, CallsIn.mono h.2 fun e w'' he => ?_⟩
      cases e with
      | returned u => exact hK _ _ he
      | panicked c => exact hP _ _ _ he
      | outgrown => exact hL he
    case row row args => exact ⟨h.1, RowsIn.mono h.2 fun u w'' he => hK _ _ he⟩
    case round l f tmps ts bd =>
      refine ⟨h.1, RoundIn.mono h.2 fun e w'' he => ?_⟩
      cases e with
      | returned u => exact hK _ _ he
      | panicked c => exact hP _ _ _ he
      | outgrown => exact hL he
  | halt x w' =>
    cases x <;> simp only [Oper.uponIn] at h ⊢
    case panic u => exact hP _ _ _ h
theorem wpAnyIn_last (hgd : ∀ (i : Nat) (o : Oper), ops[i]? = some o → o.guard = none) (hgz : oz.guard = none)
    (hz : ∀ e ∈ oz.after, Region.binds md e = true → e.on < ops.size) (hz2 : ∀ i, i < ops.size → Waits md ops oz i)
    (hfwd : ∀ i o, ops[i]? = some o → ∀ e ∈ o.after, Region.binds md e = true → e.on < i)
    (hP : ∀ c a w, Q' (.panic c) a w → Q (.panic c) a w) (hL : LetsOut Q' → LetsOut Q) (hN : ∀ a w, Q' .normal a w → oz.wpIn F n P a w (fun a w => Q .normal a w) Q) :
    ∀ (fuel : Nat) (listed : Array Bool) (a : Act) (w : World), listed.size = ops.size → Closed md ops listed → wpAnyIn F n P md ops Q' fuel listed a w → wpAnyIn F n P md (ops.push oz) Q (fuel + 1) (listed.push false) a w := by
  have lastStep : ∀ (fuel : Nat) (listed : Array Bool) (a : Act) (w : World), listed.size = ops.size → AllOn ops.size listed → Q' .normal a w → wpAnyIn F n P md (ops.push oz) Q (fuel + 1) (listed.push false) a w := by
    intro fuel listed a w hs hall hq
    have hmem : ops.size ∈ Region.ready md (ops.push oz) (listed.push false) := by
      rw [mem_ready]
      refine ⟨by rw [← hs]; simp [Array.getD], oz, by simp, fun e he hb => ?_⟩
      have := hz e he hb
      rw [getD_push_lt (by omega)]
      exact hall _ this
    refine ⟨fun h => (by rw [h] at hmem; cases hmem), fun j hj => ?_⟩
    have hje := ready_push_all hs hall j hj
    subst hje
    have hdone : Region.ready md (ops.push oz) ((listed.push false).setIfInBounds ops.size true) = [] := by
      refine List.eq_nil_iff_forall_not_mem.2 fun k hk => ?_
      rw [mem_ready] at hk
      obtain ⟨h0, o, ho, _⟩ := hk
      have hlt : k < ops.size + 1 := by have := (Array.getElem?_eq_some_iff.1 ho).1; simpa using this
      by_cases hk' : k = ops.size
      · subst hk'; simp [Array.getD, hs] at h0
      · have h1 : k < ops.size := by omega
        have h2 := hall k h1
        have h3 : k < listed.size := by omega
        simp [Array.getD, h3, Nat.lt_succ_of_lt h3, Ne.symm hk', Array.getElem_push_lt h3] at h0 h2
        rw [h0] at h2; cases h2
    unfold wpOpIn
    simp only [Array.getElem?_push_size]
    have hw : Region.wanted oz (yielded (ops.push oz) a.tmps) = true := by simp [Region.wanted, hgz]
    rw [if_pos hw]
    refine Oper.wpIn_mono (fun a' w' h' => ?_) (hN a w hq)
    cases fuel with
    | zero => exact ⟨hdone, h'⟩
    | succ fuel => exact ⟨fun _ => h', fun k hk => by rw [hdone] at hk; cases hk⟩
  intro fuel
  induction fuel with
  | zero =>
    intro listed a w hs _ h
    exact lastStep 0 listed a w hs (all_of_none hfwd hs h.1) h.2
  | succ fuel ih =>
    intro listed a w hs hcl h
    by_cases hall : AllOn ops.size listed
    · refine lastStep (fuel + 1) listed a w hs hall (h.1 (List.eq_nil_iff_forall_not_mem.2 fun k hk => ?_))
      rw [mem_ready] at hk
      obtain ⟨h0, o, ho, _⟩ := hk
      have h1 := (Array.getElem?_eq_some_iff.1 ho).1
      have h2 := hall k h1
      have h3 : k < listed.size := by omega
      simp [Array.getD, h3] at h0 h2
      rw [h0] at h2; cases h2
    · refine ⟨fun hr => ?_, fun j hj => ?_⟩
      · have : Region.ready md ops listed = [] := List.eq_nil_iff_forall_not_mem.2 fun k hk => by
          have hk2 : k ∈ Region.ready md (ops.push oz) (listed.push false) := by
            rw [mem_ready] at hk ⊢
            obtain ⟨h0, o, ho, hh⟩ := hk
            have h1 := (Array.getElem?_eq_some_iff.1 ho).1
            refine ⟨by rw [getD_push_lt (by omega)]; exact h0, o, by rw [Array.getElem?_push_lt h1, ← Array.getElem?_eq_getElem h1]; exact ho, fun e he hb => ?_⟩
            rw [getD_push_lt (by have := hfwd k o ho e he hb; omega)]
            exact hh e he hb
          rw [hr] at hk2; cases hk2
        exact absurd (all_of_none hfwd hs this) hall
      · have hj' := ready_push_some hz hz2 hfwd hs hcl hall j hj
        have h1 := h.2 j hj'
        have hlt : j < ops.size := by
          rw [mem_ready] at hj'
          obtain ⟨_, o, ho, _⟩ := hj'
          exact (Array.getElem?_eq_some_iff.1 ho).1
        unfold wpOpIn at h1 ⊢
        rw [Array.getElem?_push_lt hlt]
        rw [Array.getElem?_eq_getElem hlt] at h1
        simp only at h1 ⊢
        have hg := hgd j _ (Array.getElem?_eq_getElem hlt)
        have hw1 : Region.wanted ops[j] (yielded (ops.push oz) a.tmps) = true := by simp [Region.wanted, hg]
        have hw2 : Region.wanted ops[j] (yielded ops a.tmps) = true := by simp [Region.wanted, hg]
        rw [if_pos hw1]
        rw [if_pos hw2] at h1
        refine wpIn_turn (fun a' w' h' => ?_) hP hL h1
        rw [set_push (by omega)]
        exact ih _ _ _ (by simp [hs]) (hcl.set hj') h'
def ThenIn (n : Nat) (P : Program) (ops : Array Oper) (Q : Exit → Act → World → Prop) (oz : Oper) : Exit → Act → World → Prop
  | .normal, a, w => wpListIn Fence.wide n P ops Q [oz] a w
  | .panic _, _, _ => False
  | e, a, w => Q e a w
theorem quiet_last_round {id : Nat} {a : Act} {w : World} {l : List Oper} {l0 : Nat} (k : Nat) (hm : P.follows .mixedOrders = true) (hl : l.drop k = [oz]) (hB : splitB (l.take k).toArray oz = true) (hX : Region.lexB .any (l.take k).toArray = true) (hd : noDefer l = true)
    (h : wpQuietIn Fence.wide n P (l.take k).toArray (fun w' => ∃ n, w' = w.drewN n) (fun a' => ∀ w', (∃ n, w' = w.drewN n) → wpListIn Fence.wide n P l.toArray Q [oz] a' w') (l.take k) a) : (Code.region id l.toArray true).wpIn (Fence.wide.inRound l0) n P Q a w := by
  have he : l.toArray = (l.take k).toArray.push oz := by
    rw [List.push_toArray, ← hl, List.take_append_drop]
  have hX2 := hX
  simp only [Region.lexB, Bool.and_eq_true] at hX2
  have hq := wpAnyQIn_lex (F := Fence.wide) (n := n) (C := fun w' => ∃ n, w' = w.drewN n) (md := .any) hX2.1 (l.take k).toArray.toList 0 (Array.replicate (l.take k).toArray.size false) a (by simp) (by simpa using hX2.2) (show wpQuietIn Fence.wide n P (l.take k).toArray (fun w' => ∃ n, w' = w.drewN n) (fun a' => ∀ w', (∃ n, w' = w.drewN n) → wpListIn Fence.wide n P l.toArray Q [oz] a' w') (l.take k).toArray.toList a from h)
  have hq2 := wpAnyIn_of_quiet (C := fun w' => ∃ n, w' = w.drewN n) (Q := fun a' => ∀ w', (∃ n, w' = w.drewN n) → wpListIn Fence.wide n P l.toArray Q [oz] a' w') (Q' := ThenIn n P l.toArray Q oz) rfl (fun a w' hw' h => h w' hw') _ _ _ ({ w with drawn := w.drawn + 1 } : World) ⟨1, rfl⟩ hq
  have hB0 := hB
  simp only [splitB, Bool.and_eq_true, List.all_eq_true, List.any_eq_true, List.mem_range, decide_eq_true_eq, Option.isNone_iff_eq_none, Array.mem_toList_iff] at hB
  obtain ⟨⟨⟨⟨h1, h2⟩, h3⟩, h4⟩, h5⟩ := hB
  have hlast := wpAnyIn_last (F := Fence.wide) (n := n) (P := P) (md := .any) (ops := (l.take k).toArray) (oz := oz) (Q := Q) (Q' := ThenIn n P l.toArray Q oz) (fun i o ho => h1 o (by simpa using Array.mem_of_getElem? ho)) h2 (fun e he _ => h3 e he)
    (fun i hi => by
      obtain ⟨e, he, hb, hon⟩ := h4 i hi
      refine ⟨e, he, hb, ?_⟩
      simp only [Bool.or_eq_true, beq_iff_eq] at hon
      refine hon.imp (fun h => h) fun hx => ?_
      split at hx
      · rename_i o ho
        simp only [List.any_eq_true, Bool.and_eq_true, beq_iff_eq, Array.mem_toList_iff] at hx
        obtain ⟨f, hf, hfb, hfo⟩ := hx
        exact ⟨o, ho, f, hf, hfb, hfo⟩
      · cases hx)
    (fun i o ho e he _ => by
      have := h5 i (Array.getElem?_eq_some_iff.1 ho).1
      rw [ho] at this
      simp only [List.all_eq_true, Array.mem_toList_iff, decide_eq_true_eq] at this
      exact this e he) (fun _ _ _ h => h.elim) (fun ⟨a, w, h⟩ => ⟨a, w, h⟩) (fun a w hq => by
        have hq' : wpListIn Fence.wide n P l.toArray Q [oz] a w := hq
        unfold wpListIn at hq'
        have hw : Region.wanted oz (yielded l.toArray a.tmps) = true := by simp [Region.wanted, h2]
        simpa [hw, wpListIn] using hq')
    (l.take k).toArray.size (Array.replicate (l.take k).toArray.size false) a { w with drawn := w.drawn + 1 } (by simp) (fun j o _ hj => by simp [Array.getD] at hj) (by simpa using hq2)
  refine wpIn_region_any hm (any_round rfl hd l0 _ _ _ _ ?_)
  have hr : Array.replicate l.toArray.size false = (Array.replicate (l.take k).toArray.size false).push false := by
    rw [he, Array.size_push]
    exact Array.replicate_succ
  rw [hr, he, Array.size_push]
  exact hlast
end
def Only (Q : Exit → Act → World → Prop) : Exit → Act → World → Prop
  | .normal, a, w => Q .normal a w
  | _, _, _ => False
theorem any_plain {n : Nat} {l : List Oper} : ∀ (fuel : Nat) (listed : Array Bool) (a : Act) (w : World),
    wpAny P md l.toArray (Only Q) fuel listed a w → wpAnyIn Fence.wide n P md l.toArray Q fuel listed a w := by
  intro fuel
  induction fuel with
  | zero => exact fun _ _ _ h => h
  | succ fuel ih =>
    rintro listed a w ⟨h1, h2⟩
    refine ⟨h1, fun i hi => ?_⟩
    have h := h2 i hi
    unfold wpOp at h
    unfold wpOpIn
    split at h
    · rename_i ho
      simp only [ho]
      exact ih _ _ _ h
    · rename_i o ho
      simp only [ho]
      split at h
      · rename_i hw
        rw [if_pos hw]
        rcases h with h | ⟨_, a', w', h⟩
        · refine ⟨fun _ _ => trivial, ?_⟩
          show o.uponIn Fence.wide n P a _ Q ((execOp a.eval o).run P w)
          unfold Oper.wp at h
          generalize (execOp a.eval o).run P w = r at h
          cases r with
          | ok m w' =>
            cases m <;> simp only [Oper.upon, Oper.uponIn] at h ⊢
            case value u => exact ih _ _ _ h
            case skip => exact ih _ _ _ h
            case defer d => exact ih _ _ _ h
            case enter f args =>
              refine ⟨fun hx => (by cases hx), callsIn_wide.2 (Calls.mono h fun e w'' he => ?_)⟩
              cases e with
              | returned u => exact ih _ _ _ he
              | panicked c => exact he.elim
              | outgrown => obtain ⟨_, _, hx⟩ := he; exact hx.elim
            case row row args =>
              refine ⟨fun hx => (by cases hx), fun c cs _ => ?_⟩
              obtain ⟨v, w'', hr, hs⟩ := h c cs
              exact ⟨v, w'', ih _ _ _ hr, stepsIn_wide.2 hs⟩
          | halt x w' =>
            cases x <;> simp only [Oper.upon, Oper.uponIn] at h ⊢
            case panic u => exact h.elim
        · exact h.elim
      · rename_i hw
        rw [if_neg hw]
        exact ⟨fun _ _ => trivial, ih _ _ _ h⟩
def wpHeld (P : Program) (ops : Array Oper) (S : World → Prop) (L : Act → Prop) : List Oper → Act → Prop
  | [], a => L a
  | o :: rest, a => ∃ v, YieldsIf P ops S o v a ∧ wpHeld P ops S L rest (a.put o.dst v)
def preB (md : Region.Mode) (ops : Array Oper) : Nat → Nat → Array Bool → Bool
  | 0, _, _ => true
  | m + 1, k, listed => (Region.ready md ops listed).contains k && Region.free md ops listed k && preB md ops m (k + 1) (listed.setIfInBounds k true)
def setAll : Nat → Nat → Array Bool → Array Bool
  | 0, _, listed => listed
  | m + 1, k, listed => setAll m (k + 1) (listed.setIfInBounds k true)
theorem held_lex {S : World → Prop} (hsel : Region.noSelect ops = true) {g : Nat} {w : World} (hS : S w) : ∀ (l : List Oper) (k : Nat) (listed : Array Bool) (a : Act), (∀ j, j < l.length → l[j]? = ops[k + j]?) → preB md ops l.length k listed = true →
    wpHeld P ops S (fun a' => wpAnyH P md ops (Only Q) S g (setAll l.length k listed) a' w) l a → wpAnyH P md ops (Only Q) S (g + l.length) listed a w
  | [], _, _, _, _, _, h => h
  | o :: l, k, listed, a, hl, hB, h => by
    have h0 : ops[k]? = some o := by simpa using (hl 0 (by simp)).symm
    simp only [List.length_cons, preB, Bool.and_eq_true] at hB
    obtain ⟨⟨hr, hf⟩, hB'⟩ := hB
    obtain ⟨v, hy, hrest⟩ := h
    have hQ : ∀ c a w, Only Q (.panic c) (Act.put a o.dst v) w → Only Q (.panic c) a w := fun _ _ _ h => h
    exact wpAnyH_take h0 hsel hf hr hQ hy hS (held_lex hsel hS l (k + 1) _ _ (fun j hj => by have := hl (j + 1) (by simp; omega); simpa [Nat.add_assoc, Nat.add_comm 1 j] using this) hB' hrest)
def ThenH (P : Program) (md : Region.Mode) (ops : Array Oper) (Q : Exit → Act → World → Prop) (S : World → Prop) (fuel : Nat) (listed : Array Bool) : Exit → Act → World → Prop
  | .normal, a, w => S w ∧ wpAnyH P md ops Q S fuel listed a w
  | _, _, _ => False
theorem held_one {S : World → Prop} {i : Nat} {o : Oper} {fuel : Nat} {listed : Array Bool} {a : Act} {w : World} (hr : Region.ready md ops listed = [i]) (ho : ops[i]? = some o) (hg : o.guard = none)
    (h : wpList P ops (ThenH P md ops (Only Q) S fuel (listed.setIfInBounds i true)) [o] a w) : wpAnyH P md ops (Only Q) S (fuel + 1) listed a w := by
  refine wpAnyH_all hr (by simp) fun j hj => ?_
  obtain rfl : j = i := by simpa using hj
  unfold wpOp
  rw [ho]
  have hw : Region.wanted o (yielded ops a.tmps) = true := by simp [Region.wanted, hg]
  simp only [hw, if_true]
  unfold wpList at h
  rw [if_pos hw] at h
  rcases h with h | ⟨_, _, _, h⟩
  · left
    unfold Oper.wp at *
    generalize (execOp a.eval o).run P w = r at *
    cases r with
    | ok m w' =>
      cases m <;> simp only [Oper.upon] at h ⊢
      case value u => exact h
      case skip => exact h
      case defer d => exact h
      case enter f args =>
        refine Calls.mono h fun e w'' he => ?_
        cases e with
        | returned u => exact he
        | panicked c => exact he.elim
        | outgrown => obtain ⟨_, _, hx⟩ := he; exact hx.elim
      case row row args => exact h
    | halt x w' =>
      cases x <;> simp only [Oper.upon] at h ⊢
      case panic u => exact h.elim
  · exact h.elim
theorem held_round {n : Nat} {id : Nat} {a : Act} {w : World} {l : List Oper} {l0 : Nat} (S : World → Prop) (hm : P.follows .mixedOrders = true) (hd : noDefer l = true)
    (h : wpAnyH P .any l.toArray (Only Q) S l.toArray.size (Array.replicate l.toArray.size false) a { w with drawn := w.drawn + 1 }) : (Code.region id l.toArray true).wpIn (Fence.wide.inRound l0) n P Q a w :=
  wpIn_region_any hm (any_round rfl hd l0 _ _ _ _ (any_plain _ _ _ _ (wpAny_of_held _ _ _ _ h)))
theorem held_round_lex {n : Nat} {id : Nat} {a : Act} {w : World} {l : List Oper} {l0 : Nat} (k : Nat) (S : World → Prop) (hm : P.follows .mixedOrders = true) (hd : noDefer l = true) (hsel : Region.noSelect l.toArray = true) (hk : (l.take k).length = k) (hB : preB .any l.toArray k 0 (Array.replicate l.toArray.size false) = true) (hS : S w.drew)
    (h : wpHeld P l.toArray S (fun a' => wpAnyH P .any l.toArray (Only Q) S (l.length - k) (setAll k 0 (Array.replicate l.toArray.size false)) a' w.drew) (l.take k) a) : (Code.region id l.toArray true).wpIn (Fence.wide.inRound l0) n P Q a w := by
  refine held_round S hm hd ?_
  have hk2 : k ≤ l.length := by rw [List.length_take] at hk; omega
  have := held_lex (P := P) (md := .any) (Q := Q) (S := S) hsel (g := l.length - k) hS (l.take k) 0 (Array.replicate l.toArray.size false) a (fun j hj => by
    rw [hk] at hj
    simp [hj]) (by rw [hk]; exact hB) (by rw [hk]; exact h)
  rw [hk, show l.length - k + k = l.toArray.size by simp; omega] at this
  exact this
end Go.Proofs.YtccalhlhdiapiaaGreatDoor
namespace Go.Proofs.YtccalhlhdiapiaaGreatDoor
open Go.RowKit Go.Shelf Go.Lib
set_option linter.unusedVariables false
attribute [local go_sem] Oper.semAt_some
theorem bat_below {T e : TypeId} {B b : Nat} {p : Value} {bs : List Value} {W W' : World} (h : BuilderAtF T e B b p bs W) (hb : Below W.heap.size W W') : BuilderAtF T e B b p bs W' := by
  have hlt := h.lt
  obtain ⟨hB, v, hv, hown, hne⟩ := h
  exact ⟨hB, v, (hb.block b hlt).trans hv, hown.kept (row := none) ⟨hb.os, hb.tape, hb.output, hb.size, fun k hk _ => hb.block k hk⟩ (Classical.em _), hne⟩
theorem isb_below {T e : TypeId} {B b : Nat} {bs : List Value} {W W' : World} (h : IsBuilderF T e B b bs W) (hb : Below W.heap.size W W') : IsBuilderF T e B b bs W' :=
  h.elim (fun x => .inl (bat_below x hb)) (fun x => .inr (bat_below x hb))
theorem bat_kept {T e : TypeId} {B b : Nat} {p : Value} {bs : List Value} {W W' : World} {row : Option Nat} (h : BuilderAtF T e B b p bs W) (hg : W.grownBy W' row) (hr : ∀ r, row = some r → ∃ o : Obj, W.heap[r]? = some o ∧ o.isCells = false) : BuilderAtF T e B b p bs W' := by
  have hne2 : ∀ k cs t f, W.heap[k]? = some (.cells cs t f) → some k ≠ row := fun k cs t f hk ek => by
    obtain ⟨o, ho, hc⟩ := hr k ek.symm
    rw [hk] at ho
    cases ho
    cases hc
  have hlt := h.lt
  obtain ⟨hB, v, hv, hown, hne⟩ := h
  refine ⟨hB, v, (hg.block b hlt (hne2 _ _ _ _ hv)).trans hv, hown.kept (row := row) hg ?_, hne⟩
  rcases hown.2 with ⟨rfl, _⟩ | ⟨g, cap, cur, fz, rfl, _, hgg, _⟩
  · left; rfl
  · right
    intro e'
    exact hne2 g _ _ _ hgg e'
theorem _root_.Go.Lib.BuilderAtF.heap {T e : TypeId} {B b : Nat} {p : Value} {bs : List Value} {W : World} (h : BuilderAtF T e B b p bs W) : ∃ cs, W.heap[b]? = some (.cells cs T (0, 0)) := by
  obtain ⟨_, v, hv, _⟩ := h
  exact ⟨_, hv⟩
theorem keeps_of_others {e : TypeId} {b B : Nat} {T : TypeId} {cs : Array Value} {f : Nat × Nat} {W W' : World} (h : OthersKept e (some b) W W') (hs : W.heap.size ≤ W'.heap.size) (hb : W.heap[b]? = some (.cells cs T f)) : KeepsFrom B W W' :=
  ⟨hs, fun k o _ hk ho => h k o hk (fun ek => by cases ek; rw [hb] at hk; cases hk; cases ho) (fun c fz eo => by rw [eo] at ho; cases ho)⟩
theorem bytes_zeros (l : List UInt8) (k : Nat) : Go.Lib.byteCells l ++ strCells ⟨Array.replicate k 48⟩ = Go.Lib.byteCells (l ++ List.replicate k 48) := by simp [Go.Lib.byteCells, strCells]
theorem bytes_app (l m : List UInt8) : Go.Lib.byteCells l ++ strCells ⟨m.toArray⟩ = Go.Lib.byteCells (l ++ m) := by simp [Go.Lib.byteCells, strCells]
theorem zeros_from (k : Nat) (h1 : 1 ≤ k) (h : k ≤ 9) (W : World) : (Instr.slice 9 (.string ⟨#[48, 48, 48, 48, 48, 48, 48, 48, 48]⟩) (some (.int .i64 (k : Int))) none none).run Tryz.prog W = .ok (.string ⟨(List.replicate (9 - k) 48).toArray⟩) W := by
  rw [run_slice_string_l W 9 _ Tryz.underlying9 .i64 (k : Int) (by omega) (by simp [ByteArray.size]; omega)]
  have hk : k = 1 ∨ k = 2 ∨ k = 3 ∨ k = 4 ∨ k = 5 ∨ k = 6 ∨ k = 7 ∨ k = 8 ∨ k = 9 := by omega
  rcases hk with rfl | rfl | rfl | rfl | rfl | rfl | rfl | rfl | rfl <;> rfl
theorem zeros_from' (k : Nat) (h1 : 1 ≤ k) (h : k ≤ 9) (W : World) : (Instr.sliceAt 9 (.string ⟨#[48, 48, 48, 48, 48, 48, 48, 48, 48]⟩) (some (.int .i64 (k : Int))) none none).run Tryz.prog W = .ok (.string ⟨(List.replicate (9 - k) 48).toArray⟩) W := by
  rw [run_sliceAt_string W 9 _ _ _ _ Tryz.underlying9]
  exact zeros_from k h1 h W
theorem step_below {B n0 bs : Nat} {W W' : World} (h : Below W.heap.size W W') (hb : bs < W.heap.size) (hn : n0 ≤ W.heap.size) : KpB n0 bs W W' ∧ KeepsFrom B W W' :=
  ⟨⟨h.mono hn, h.block bs hb⟩, h.size, fun k o _ hk _ => (h.block k (Array.getElem?_eq_some_iff.1 hk).1).trans hk⟩
theorem step_write {e T T' : TypeId} {B n0 bs b : Nat} {cs cs' : Array Value} {W W' : World} {f : Nat × Nat} (h : OthersKept e (some b) W W') (hB : Below n0 W W') (hb : W.heap[b]? = some (.cells cs T f)) (hx : Blk W bs cs' T') (hne : bs ≠ b) (hT : T' ≠ e) : KpB n0 bs W W' ∧ KeepsFrom B W W' :=
  ⟨⟨hB, (h bs _ hx (fun ek => hne (by cases ek; rfl)) (fun c fz ec => hT (by cases ec; rfl))).trans (Eq.symm hx)⟩, keeps_of_others h hB.size hb⟩
set_option maxRecDepth 100000 in
set_option maxHeartbeats 4000000 in
theorem l_String (w : World) (v : Value) (a : Nat) (ha : IsN .u64 w v a) (hL : Lay w) (hla : (limbs a).length ≤ 1000000) :
    Calls Tryz.prog 157 #[v] w fun e w' => e = .returned (.string ⟨(Lib.decDigits a).toArray⟩) ∧ Below w.heap.size w w' := by
  obtain ⟨a1, c1, rfl, h1, h2, h3⟩ := ha.openI
  have H3 := hid h3; clear h3 ha
  by_cases h0 : (limbs a).length = 0
  · rw [h0]
    have ea : a = 0 := limbs_nil.1 (List.eq_nil_of_length_eq_zero h0)
    refine (callsIn_wide (n := 9)).1 ?_
    refine callsIn_of_wp_marks Tryz.func157 rfl trivial ?_ rfl
    simp only [Tryz.ntmps157, List.size_toArray, List.length_cons, List.length_nil, Nat.reduceAdd, Nat.reduceSub, Array.replicate_succ, Array.replicate_zero, List.push_toArray, List.append_toArray, List.nil_append, List.cons_append]
    gi_wp2
    refine ⟨.string ⟨#[48]⟩, by simp [results, Tryz.results157, go_sem], ?_, Below.refl _ _⟩
    rw [ea, dec_zero]
  · obtain ⟨n, ea⟩ : ∃ n, (limbs a).length = n + 1 := ⟨(limbs a).length - 1, by omega⟩
    obtain ⟨x, hx, hx1, hx2, hd, hv⟩ := last_limb ea
    obtain ⟨g, o, rfl, hg, hc⟩ := H3.out n x hx
    rw [ea] at h1 hla ⊢
    have hw1 : IntKind.i64.wrap (((n + 1 : Nat) : Int) - 1) = (n : Int) := by rw [IntWalk.i64_in _ ⟨by omega, by omega⟩]; omega
    have HD := hid hd
    have HV := hid hv
    have HL := hid hL
    clear hd hv hL
    refine (callsIn_wide (n := 9)).1 ?_
    refine callsIn_of_wp_marks Tryz.func157 rfl trivial ?_ rfl
    simp only [Tryz.ntmps157, List.size_toArray, List.length_cons, List.length_nil, Nat.reduceAdd, Nat.reduceSub, Array.replicate_succ, Array.replicate_zero, List.push_toArray, List.append_toArray, List.nil_append, List.cons_append]
    gi_wp2_with (first
      | (refine ⟨trivial, ?_⟩; gi_at_call 196
         refine (callsIn_wide.2 (l_fmt _ x (by omega) (HL.out.call ((Below.refl _ _).alloc (Nat.le_refl _) _)))).mono ?_
         rintro e W2 ⟨rfl, hb2⟩
         have HI : Hid (IsBuilderF 208 5 w.heap.size w.heap.size [] W2) := isb_below (IsBuilderF.of (fresh_isBuilder 208 5 w)) hb2
         have HB2 : Hid (Below w.heap.size w W2) := bnext ((Below.refl _ _).alloc (Nat.le_refl _) _) hb2
         clear hb2)
      | (refine ⟨trivial, ?_⟩; gi_at_call 197
         refine (callsIn_wide.2 (Tryz.builder_WriteString w.heap.size w.heap.size [] _ _ HI.out (by simp only [List.length_nil, ByteArray.size, List.size_toArray, Lib.decDigits_length]; have := nDigits_le (n := x) (k := 9) (by omega) (by omega); omega) HB2.out.size)).mono ?_
         rintro e W3 ⟨rfl, hi3, hb3, -⟩
         have HI3 := hid hi3
         have HB3 : Hid (Below w.heap.size w W3) := HB2.out.trans hb3
         clear hi3 hb3)
      | (refine ⟨trivial, ?_⟩; gi_at_call 154; refine (callsIn_wide.2 (back_call _ _ _ _)).mono ?_; rintro e w' ⟨rfl, rfl⟩)
      | fail)
    obtain ⟨W0, hW0⟩ : ∃ W0, W3.alloc (Obj.cells #[Value.slice (some { block := g, off := o }) n c1] 119) = W0 := ⟨_, rfl⟩
    have y1 : Blk W0 W3.heap.size #[.slice (some ⟨g, o, none⟩) n c1] 119 := by rw [← hW0]; exact Blk.new _ _ _
    have i0 : BuilderAtF 208 5 w.heap.size w.heap.size (.pointer (some ⟨w.heap.size, 0, none⟩)) (Go.Lib.byteCells (Lib.decDigits x)) W0 := by
      rw [← hW0]
      have := BuilderAtF.alloc HI3.out (Obj.cells #[Value.slice (some { block := g, off := o }) n c1] 119)
      simpa [strCells, Go.Lib.byteCells] using this
    have B0 : Below w.heap.size w W0 := by rw [← hW0]; exact HB3.out.alloc HB3.out.size _
    have z0 : W0.heap.size = W3.heap.size + 1 := by rw [← hW0]; simp
    have lt3 : w.heap.size < W3.heap.size := HI3.out.lt
    rw [hW0]
    have Y1 := hid y1; have I0 := hid i0; have HB0 := hid B0; have Z0 := hid z0; have L3 := hid lt3
    have HA := hid ea; have HG := hid hg; have HX := hid hx2
    clear y1 i0 B0 z0 lt3 hW0 HI HB2 HI3 HB3 hc hw1 hx
    have hread : ∀ W1 W2, Below W0.heap.size W0 W1 → KpB w.heap.size W3.heap.size W1 W2 → W2.cell? ⟨W3.heap.size, 0, none⟩ = some (.slice (some ⟨g, o, none⟩) n c1) ∧ ∀ i, i < n → ∃ g' o' z, (some ⟨g, o, none⟩ : Option Addr) = some ⟨g', o', none⟩ ∧ W2.cell? ⟨g', o' + i, none⟩ = some (.int .u64 z) ∧ ∃ y : Nat, z = y ∧ (limbs a)[i]? = some y := fun W1 W2 b1 b2 => by
      refine ⟨(b2.blk (Y1.out.call b1)).cell 0, fun i hi => ?_⟩
      obtain ⟨y, hy⟩ : ∃ y, (limbs a)[i]? = some y := ⟨_, List.getElem?_eq_getElem (by rw [HA.out]; omega)⟩
      obtain ⟨g', o', e, hg', hc⟩ := H3.out i y hy
      exact ⟨g', o', _, e, (((b2.1.cell (p := ⟨g', o' + i, none⟩) hg').trans (b1.cell (p := ⟨g', o' + i, none⟩) (by have := HB0.out.size; simp; omega))).trans (HB0.out.cell (p := ⟨g', o' + i, none⟩) hg')).trans hc, y, rfl, hy⟩
    refine range_ok (by omega) (gf := 194) (lb := #[.pointer (some ⟨W3.heap.size, 0, none⟩)]) rfl (enters_of Tryz.func194 (by kernel_rfl) rfl)
      (back_feeds (Kp := KpB w.heap.size W3.heap.size) (V := fun i z => ∃ y : Nat, z = y ∧ (limbs a)[i]? = some y) 8 (by omega) _ n c1 _ (by omega) (by omega) W0 (KpB.refl _ _) KpB.trans hread) KpB.trans (KpB.put (by have := HB0.out.size; omega) (by have := Z0.out; omega)) (Below.refl _ _) (fun _ => rfl)
      (fun pre W => (∃ l : List UInt8, BuilderAtF 208 5 w.heap.size w.heap.size (.pointer (some ⟨w.heap.size, 0, none⟩)) (Go.Lib.byteCells l) W ∧ l = Lib.decDigits (val ((limbs a).drop (n - pre.length))) ∧ l.length ≤ 9 * (pre.length + 1) ∧ 0 < val ((limbs a).drop (n - pre.length)) ∧ Blk W W3.heap.size #[.slice (some ⟨g, o, none⟩) n c1] 119) ∧ Below w.heap.size W0 W)
      (fun c pre W => False)
      (OwnFrom.and (fun s A B row hs hg hr => by
        obtain ⟨l, h1, h2, h3, h4, h5⟩ := hs
        exact ⟨l, bat_kept h1 hg (fun r e => (hr r e).2), h2, h3, h4, h5.kept hg (fun r e => (hr r e).2)⟩) (ownFrom_below (by have := HB0.out.size; omega) (by have := HB0.out.size; omega)))
      (fun c s A B row hs hg hr => hs)
      ⟨⟨_, I0.out, by simp [HV.out], by simp only [Lib.decDigits_length, List.length_nil]; have := nDigits_le (n := x) (k := 9) (by omega) (by omega); omega, by simp only [List.length_nil, Nat.sub_zero, HV.out]; exact hx2, Y1.out⟩, Below.refl _ _⟩ ?act ?assign ?body ?done ?stop
    case assign =>
      intro l x W K hK
      gi_wp2
      exact hK
    case body =>
      rintro l pre ⟨j, z⟩ W ⟨hj, y, ez, hy⟩ ⟨⟨ds, hA, hds, hlen, hpos, hbx⟩, hB⟩
      dsimp only at hj ez hy
      subst ez
      have hyl : y < 1000000000 := (sm_limbs a).get hy
      have hk1 : 1 ≤ Lib.nDigits y := Lib.nDigits_pos y
      have hk9 : Lib.nDigits y ≤ 9 := nDigits_le (by omega) (by omega)
      have hlen2 : (Lib.decDigits y).length = Lib.nDigits y := Lib.decDigits_length y
      have hz := zeros_from (Lib.nDigits y) hk1 hk9
      have hz' := zeros_from' (Lib.nDigits y) hk1 hk9
      have e1 : n - pre.length = j + 1 := by omega
      rw [e1] at hds hpos
      have HW : Hid (Below w.heap.size w W) := HB0.out.trans hB
      have HAA := hid hA; have HBX := hid hbx; have HBB := hid hB; have HDS := hid hds; have HLN := hid hlen; have HPO := hid hpos; have HJ := hid hj; have HY := hid hy
      have LW : Hid (W3.heap.size < W.heap.size) := Blk.lt hbx
      clear hA hbx hB hds hlen hpos hj hy e1
      gi_wp2_with (first
        | (refine ⟨trivial, ?_⟩; gi_at_call 196
           refine (callsIn_wide.2 (l_fmt _ y (by omega) (HL.out.call HW.out))).mono ?_
           rintro e Wa ⟨rfl, hba⟩
           have HIa : Hid (BuilderAtF 208 5 w.heap.size w.heap.size (.pointer (some ⟨w.heap.size, 0, none⟩)) (Go.Lib.byteCells ds) Wa) := bat_below HAA.out hba
           have HKa : Hid (KpB w.heap.size W3.heap.size W Wa ∧ KeepsFrom W0.heap.size W Wa) := step_below hba LW.out HW.out.size
           have HPL := HIa.out.heap
           obtain ⟨cs, hcs⟩ := HPL
           have HBa : Hid (w.heap.size ≤ Wa.heap.size) := Nat.le_trans HW.out.size hba.size
           have HCa := hid hcs
           clear hba hcs)
        | fail)
      refine ⟨trivial, ?_⟩
      refine (callsIn_wide.2 (Tryz.builder_WriteString w.heap.size w.heap.size (Go.Lib.byteCells ds) _ _ (.inr HIa.out) (by simp only [Go.Lib.byteCells, List.length_map, ByteArray.size, Array.size_replicate]; have := HLN.out; have := HJ.out; omega) HBa.out)).mono ?_
      rintro e Wb ⟨rfl, hib, hbb, hob⟩
      rw [bytes_zeros] at hib
      have hkb := step_write (B := W0.heap.size) hob hbb HCa.out (HKa.out.1.blk HBX.out) (by have := L3.out; omega) (by decide)
      have HKb : Hid (KpB w.heap.size W3.heap.size W Wb ∧ KeepsFrom W0.heap.size W Wb) := ⟨HKa.out.1.trans hkb.1, HKa.out.2.trans hkb.2⟩
      have HIb := hid hib
      obtain ⟨cs2, hcs2⟩ := hib.heap
      have HCb := hid hcs2
      have HBb : Hid (w.heap.size ≤ Wb.heap.size) := Nat.le_trans HBa.out hbb.size
      clear hib hbb hob hkb hcs2
      gi_wp2_with fail
      refine ⟨trivial, ?_⟩
      refine (callsIn_wide.2 (Tryz.builder_WriteString w.heap.size w.heap.size _ _ _ (.inr HIb.out) (by simp only [Go.Lib.byteCells, List.length_map, List.length_append, List.length_replicate, ByteArray.size, List.size_toArray]; have := HLN.out; have := HJ.out; omega) HBb.out)).mono ?_
      rintro e Wc ⟨rfl, hic, hbc, hoc⟩
      rw [bytes_app, List.append_assoc] at hic
      have hkc := step_write (B := W0.heap.size) hoc hbc HCb.out (HKb.out.1.blk HBX.out) (by have := L3.out; omega) (by decide)
      gi_wp2_with fail
      have hpre : n - (pre ++ [(j, (y : Int))]).length = j := by rw [List.length_append, List.length_singleton]; have := HJ.out; omega
      refine ⟨HKb.out.2.trans hkc.2, HKb.out.1.trans hkc.1, ⟨_, hic, ?_, ?_, ?_, (HKb.out.1.trans hkc.1).blk HBX.out⟩, HBB.out.trans ((HKb.out.1.trans hkc.1).1)⟩
      · rw [hpre, dec_limbs (sm_limbs a) HY.out HPO.out, ← HDS.out]; rfl
      · simp only [List.length_append, List.length_replicate, List.length_singleton]; have := HLN.out; omega
      · rw [hpre, val_drop HY.out]; have := HPO.out; omega
    case done =>
      rintro D xs W hD hx ⟨⟨ds, hA, hds, hlen, hpos, hbx⟩, hB⟩ hK
      rw [hx, Nat.sub_self, List.drop_zero, val_limbs] at hds
      have HAA := hid hA; have HBB := hid hB; have HDS := hid hds; have HK := hid hK; have HDD := hid hD
      have HLE : Hid (w.heap.size ≤ W.heap.size) := Nat.le_trans HB0.out.size hB.size
      clear hA hbx hB hds hlen hpos hx hK hD
      gi_wp2_with fail
      refine ⟨trivial, ?_⟩
      refine (callsIn_wide.2 (Tryz.builder_String w.heap.size w.heap.size ds _ (.inr HAA.out) HLE.out)).mono ?_
      rintro e Wz ⟨rfl, -, hbz, hoz⟩
      have hKz : Wz.heap[D]? = some (.deferred (some [])) := hoz D _ HK.out (fun ek => by cases ek; have := HB0.out.size; have := HDD.out; have := L3.out; have := Z0.out; omega) (fun c fz ec => by cases ec)
      have HKz := hid hKz
      have HBz : Hid (Below w.heap.size w Wz) := (HB0.out.trans HBB.out).trans hbz
      clear hoz hKz hbz
      gi_wp2_with fail
      refine marks_end HKz.out (v := .string ⟨ds.toArray⟩) (by simp [results, Tryz.results157, go_sem]) ⟨by rw [HDS.out], ?_⟩
      exact HBz.out.trans (belowK_b (w := w) (Nat.le_refl _) _ D _ _ (by have := HDD.out; have := L3.out; have := Z0.out; omega) HKz.out rfl rfl)
    case stop =>
      rintro D c pre W hD - h
      exact h.elim
end Go.Proofs.YtccalhlhdiapiaaGreatDoor
namespace Go.Proofs.YtccalhlhdiapiaaGreatDoor
open Go.RowKit Go.Shelf Go.Lib
set_option linter.unusedVariables false
theorem extract_list (s : ByteArray) (a e : Nat) : (s.extract a e).data.toList = (s.data.toList.drop a).take (e - a) := by
  rw [ByteArray.data_extract, Array.toList_extract]
theorem parse_digs : ∀ (l : List UInt8) (acc : Nat), allDig l → 10 ^ l.length * (acc + 1) ≤ 10 ^ 9 → parseUintM 18446744073709551615 acc l = .ok (10 ^ l.length * acc + dv l)
  | [], acc, _, _ => by simp [parseUintM]
  | c :: r, acc, hd, hb => by
    have hc := isDig_iff.1 (hd c (by simp))
    have hr : allDig r := fun b hb => hd b (by simp [hb])
    rw [List.length_cons, Nat.pow_succ] at hb
    have hp : 0 < 10 ^ r.length := Nat.pow_pos (by omega)
    have h2 : 10 ^ r.length * (acc * 10 + (c.toNat - 48) + 1) ≤ 10 ^ 9 := by
      refine Nat.le_trans (Nat.mul_le_mul_left _ (show _ ≤ 10 * (acc + 1) by omega)) ?_
      rw [← Nat.mul_assoc]
      exact hb
    have ha : acc * 10 + (c.toNat - 48) + 1 ≤ 10 ^ 9 := Nat.le_trans (Nat.le_mul_of_pos_left _ hp) h2
    rw [parseUintM, if_pos hc, if_neg (by omega), if_neg (by omega), parse_digs r _ hr h2]
    have e : dv (c :: r) = 10 ^ r.length * (c.toNat - 48) + dv r := by
      rw [show c :: r = [c] ++ r from rfl, dv_append]
      simp [dv]
    rw [e, List.length_cons, Nat.pow_succ]
    congr 1
    rw [Nat.mul_add, Nat.mul_comm acc 10, ← Nat.mul_assoc]
    omega
theorem parse_chunk {l : List UInt8} (hd : allDig l) (h0 : l ≠ []) (h9 : l.length ≤ 9) : parseUintB 64 l = .ok (dv l) := by
  rw [parseUintB, if_neg h0]
  have h := parse_digs l 0 hd (by simpa using Nat.pow_le_pow_right (by omega) h9)
  simpa using h
theorem list_size (s : ByteArray) : s.data.toList.length = s.size := Array.length_toList
theorem par_call (s : ByteArray) (hmax : s.size ≤ 9223372036854775806) (u : Nat) (h : Lib.parseUintB 64 s.data.toList = .ok u) (w : World) :
    Calls Tryz.prog 166 #[.string s, .int .i64 10, .int .i64 64] w fun e w' => e = .returned (.tuple #[.int .u64 u, .nilIface]) ∧ Below w.heap.size w w' := by
  refine (Tryz.strconv_ParseUint s hmax u h w).mono ?_
  rintro e w' ⟨rfl, rfl | rfl⟩
  · exact ⟨rfl, Below.refl _ _⟩
  · exact ⟨rfl, Lib.bytesWorld_below _ _ _⟩
set_option maxRecDepth 100000 in
set_option maxHeartbeats 400000 in
theorem l_Parse (w : World) (s : ByteArray) (hd : allDig s.data.toList) (hs : s.size ≤ 1000000) :
    Calls Tryz.prog 111 #[.string s] w fun e w' => RetN .u64 (dv s.data.toList) e w' ∧ Below w.heap.size w w' := by
  obtain ⟨i0, hi, hz0, hz1, hz2⟩ := info_parts info_u64
  have HD := hid hd
  clear hd
  go_enter Tryz.func111, Tryz.ntmps111
  go_wp2_with fail
  go_loopw [3, 4, 5, 6] (fun o q x5 x6 wr => ∃ (l : List Nat) (t : Int), q = .int .i64 t ∧ t ≤ s.size ∧ -9 ≤ t ∧ l.length ≤ s.size - t.toNat ∧ Hid (ReadI s.data.toList t.toNat l) ∧ Hid (wr.ownsRow w.heap.size 147 1 o l.length (ints .u64 l)) ∧ Hid (Below w.heap.size w wr)) (fun _ q _ _ _ => (RowKit.intOf q).toNat)
  case atStart => exact ⟨[], _, rfl, by omega, by omega, by simp, ReadI.start _, World.ownsRow_nil _ _ _ _, Below.refl _ _⟩
  case round =>
    obtain ⟨l, t, rfl, hts, ht9, hl, hR, hO, hB⟩ := hrel
    by_cases h0 : t ≤ 0
    · have q0 : decide ((0 : Int) < t) = false := by simp; omega
      have e0 : t.toNat = 0 := by omega
      have hR2 := hR.out
      rw [e0] at hR2
      obtain ⟨ao, co, rfl⟩ := owns_ex hO.out
      have hrow : Row wr (.slice ao l.length co) (ints .u64 l) := Row.of_owns hO.out
      have hdone := hR2.done
      have hsm := hR2.sm
      clear hR2
      go_wp2_with (first
        | (go_at_call 158; refine (l_trim wr _ l hsm hrow).mono ?_; rintro e w' ⟨⟨v', rfl, hv'⟩, rfl⟩)
        | fail)
      go_ret
      refine ⟨⟨_, rfl, ?_⟩, hB.out⟩
      rw [← hdone]
      exact hv'
    · obtain ⟨e, he⟩ : ∃ e : Nat, t = e := ⟨t.toNat, by omega⟩
      subst he
      rw [Int.toNat_natCast] at hl hR
      have q0 : decide ((0 : Int) < (e : Int)) = true := by simp; omega
      obtain ⟨a, ha⟩ : ∃ a : Nat, a = e - 9 := ⟨_, rfl⟩
      have q1 : IntKind.i64.wrap ((e : Int) - 9) = (e : Int) - 9 := IntWalk.i64_in _ ⟨by omega, by omega⟩
      have q2 : max (0 : Int) ((e : Int) - 9) = (a : Int) := by omega
      have hle : ((s.extract a e).data.toList).length = e - a := by
        rw [extract_list, List.length_take, List.length_drop]
        have := list_size s
        omega
      have hchunk := parse_chunk (l := (s.extract a e).data.toList) (by rw [extract_list]; exact (HD.out.drop a).take _) (fun e0 => by rw [e0] at hle; simp at hle; omega) (by omega)
      have hlt : dv (s.extract a e).data.toList < 1000000000 := by rw [extract_list]; exact chunk_lt HD.out (by omega)
      have hsz : (s.extract a e).size ≤ 9223372036854775806 := by
        have := list_size (s.extract a e)
        omega
      obtain ⟨z, hz⟩ : ∃ z, dv (s.extract a e).data.toList = z := ⟨_, rfl⟩
      rw [hz] at hchunk hlt
      have hnext := hR.out.next HD.out
      rw [← ha, ← extract_list, hz] at hnext
      have HN := hid hnext; have HC := hid hchunk; have HS := hid hsz; have HA := hid ha; have HZ := hid hz
      clear hnext hchunk hsz ha hz hle hR
      obtain ⟨ao, co, rfl⟩ := owns_ex hO.out
      go_wp2_with (first
        | (go_at_call 166; refine (par_call _ HS.out z HC.out _).mono ?_; rintro e' W1 ⟨rfl, hb1⟩
           have HO1 := hid (owns_call hO.out hb1)
           have HB1 : Hid (Below w.heap.size w W1) := bnext hB.out (hb1.mono (Nat.le_refl _))
           clear hb1)
        | (at_builtin; refine wpList_append_own _ rfl _ _ 119 rfl w.heap.size 147 i0 (.int .u64 0) 1 8 Tryz.underlying119 hi hz0 hz1 hz2 rfl (by decide) _ l.length _ rfl (HO1.out.alloc _) ⟨W1.heap.size, 0, none⟩ 1 1 [.int .u64 (z : Int)] rfl rfl (cell_one_new W1 (.int .u64 (z : Int)) 147) (by simp [Value.oneCell']) (by unfold maxLen; omega) (by omega) (by have := HB1.out.size; simp; omega) ?_; intro v' w3 hown3 hgrow3 _; have HO3 := hid hown3; have HG3 := hid hgrow3; clear hown3 hgrow3)
        | fail)
      obtain ⟨n1, n2⟩ := own_next (z := z) HO1.out HB1.out HO3.out HG3.out
      have et : ((e : Int) - 9).toNat = a := by have := HA.out; omega
      go_roundw
      case rel => exact ⟨l ++ [z], _, rfl, by omega, by omega, by rw [et]; simp only [List.length_append, List.length_singleton]; have := HA.out; omega, by rw [et]; exact HN, n1, n2⟩
      case measure => simp [RowKit.intOf]; omega
end Go.Proofs.YtccalhlhdiapiaaGreatDoor
namespace Go.Proofs.YtccalhlhdiapiaaGreatDoor
open Go.RowKit Go.Shelf
open Go.Lib (decDigits nDigits)
set_option linter.unusedVariables false
def firstE (x y : Int) : Int := if x = 0 then y else x
set_option maxRecDepth 100000 in
set_option maxHeartbeats 1000000 in
theorem n_first (w : World) (g : Nat) (x y : Int) (c0 : w.cell? ⟨g, 0, none⟩ = some (.int .i64 x)) (c1 : w.cell? ⟨g, 1, none⟩ = some (.int .i64 y)) :
    Calls Tryz.prog 146 #[.slice (some ⟨g, 0, none⟩) 2 2] w fun e w' => e = .returned (.int .i64 (firstE x y)) ∧ w = w' := by
  go_enter Tryz.func146, Tryz.ntmps146
  go_wp2_with fail
  go_loopw [8, 5] (fun i q wr => ∃ k : Nat, i = .int .i64 k ∧ k ≤ 2 ∧ Hid ((1 ≤ k → x = 0) ∧ (2 ≤ k → y = 0)) ∧ w = wr) (fun i _ _ => (2 - RowKit.intOf i).toNat)
  case atStart => exact ⟨0, rfl, by omega, ⟨fun h => by omega, fun h => by omega⟩, rfl⟩
  case round =>
    obtain ⟨k, rfl, hk, hz, rfl⟩ := hrel
    have hk3 : k = 0 ∨ k = 1 ∨ k = 2 := by omega
    rcases hk3 with rfl | rfl | rfl
    · by_cases hx : x = 0
      · subst hx
        go_wp2_with fail
        go_roundw
        case rel => exact ⟨1, rfl, by omega, ⟨fun _ => by simp, fun h => by omega⟩, by first | rfl | trivial⟩
        case measure => simp [RowKit.intOf]
      · have q0 : (x == 0) = false := by simpa using hx
        have q1 : (x != 0) = true := by simpa using hx
        go_wp2_with fail
        go_ret
        exact ⟨by rw [firstE, if_neg hx]; rfl, rfl⟩
    · have hx := hz.out.1 (Nat.le_refl _)
      subst hx
      by_cases hy : y = 0
      · subst hy
        go_wp2_with fail
        go_roundw
        case rel => exact ⟨2, rfl, by omega, ⟨fun _ => by simp, fun _ => by simp⟩, by first | rfl | trivial⟩
        case measure => simp [RowKit.intOf]
      · have q0 : (y == 0) = false := by simpa using hy
        have q1 : (y != 0) = true := by simpa using hy
        go_wp2_with fail
        go_ret
        exact ⟨by rw [firstE, if_pos rfl]; rfl, rfl⟩
    · have hx := hz.out.1 (by omega)
      have hy := hz.out.2 (Nat.le_refl _)
      subst hx; subst hy
      go_wp2_with fail
      go_ret
      exact ⟨by rw [firstE, if_pos rfl]; rfl, rfl⟩
def resB (n : Nat) : ByteArray := if 4000 < nDigits n then ⟨#[]⟩ else numB n
set_option maxRecDepth 100000 in
set_option maxHeartbeats 1000000 in
theorem n_result (w : World) (v : Value) (n : Nat) (h : IsN .u64 w v n) (hl : (limbs n).length ≤ 1000000) (hL : Lay w) :
    Calls Tryz.prog 106 #[v] w fun e w' => e = .returned (.tuple #[.string (resB n), .int .i64 (resE n)]) ∧ Below w.heap.size w w' := by
  obtain ⟨a, c, rfl, _⟩ := h.openI
  have H := hid h; have HL := hid hl; have HY := hid hL
  have hbd := nDigits_bound hl (by omega)
  obtain ⟨D, hD⟩ : ∃ D, nDigits n = D := ⟨_, rfl⟩
  have P := hid (l_Digits w _ n h hL hl)
  rw [hD] at P hbd
  by_cases hlong : 4000 < D
  · have e1 : resB n = ⟨#[]⟩ := if_pos (by omega)
    have e2 : resE n = 5 := resE_long (by omega)
    have q0 : decide ((4000 : Int) < (D : Int)) = true := by simp; omega
    rw [e1, e2]
    clear hlong h hl hL e1 e2 hD
    go_enter Tryz.func106, Tryz.ntmps106
    go_wp2_with (first
      | (go_at_call 156; refine P.out.mono ?_; rintro e w1 ⟨rfl, hb1⟩)
      | fail)
    go_ret2
    exact ⟨rfl, hb1⟩
  · have e1 : resB n = numB n := if_neg (by omega)
    have e2 : resE n = 0 := resE_ok (by omega)
    have q0 : decide ((4000 : Int) < (D : Int)) = false := by simp; omega
    rw [e1, e2]
    clear hlong h hl hL e1 e2 hD
    go_enter Tryz.func106, Tryz.ntmps106
    go_wp2_with (first
      | (go_at_call 156; refine P.out.mono ?_; rintro e w1 ⟨rfl, hb1⟩
         have y1 := hid hb1; clear hb1)
      | (go_at_call 157; refine (l_String _ _ n (H.out.call y1.out) (HY.out.call y1.out) HL.out).mono ?_; rintro e w2 ⟨rfl, hb2⟩
         have y2 := hid (bnext y1.out hb2); clear hb2)
      | fail)
    go_ret2
    exact ⟨rfl, y2.out⟩
end Go.Proofs.YtccalhlhdiapiaaGreatDoor
