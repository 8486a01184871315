/- Texts that the proof rests on, merged: R1e, QPlus, R2p, R2c, Dig, R2o, R1o, R3a, R4s, Rb1p, Ch5, Pl6. -/
import Derived.Test.YtpehhgkghgbhiaaGreatDoorKj7
import Derived.Deep.RegionHeld3
import Derived.Laws.Concat
namespace Go.Proofs.YtpehhgkghgbhiaaGreatDoor
open Go.RowKit
set_option linter.unusedVariables false
set_option maxHeartbeats 4000000 in
theorem r1_Minus (w : World) (v u : Value) (a b : Nat) (ha : IsN .i64 w v a) (hb : IsN .i64 w u b) (hle : b ≤ a) (hla : (limbs a).length ≤ 1000000) :
    Calls Tryz.prog 86 #[v, u] w fun e w' => RetN .i64 (a - b) e w' ∧ Below w.heap.size w w' := by
  obtain ⟨i0, hi, hz0, hz1, hz2⟩ := info_parts info_int
  obtain ⟨a1, c1, rfl, h1, h2, h3⟩ := ha.openI
  obtain ⟨a2, c2, rfl, k1, k2, k3⟩ := hb.openI
  have H3 := hid h3; have K3 := hid k3; clear h3 k3 ha hb
  have hmn := limbs_length_mono hle
  obtain ⟨n, ea⟩ : ∃ n, (limbs a).length = n := ⟨_, rfl⟩
  obtain ⟨m, eb⟩ : ∃ m, (limbs b).length = m := ⟨_, rfl⟩
  rw [ea] at h1 hla hmn ⊢
  rw [eb] at k1 hmn ⊢
  have HA := hid ea; have HB := hid eb; have HL := hid hle
  clear ea eb hle
  go_enter Tryz.func86, Tryz.ntmps86
  go_wp2_with fail
  go_loopw [5, 6, 7, 8] (fun o cc i nn wr => ∃ (s : List Nat) (c : Nat) (C : Int), i = .int .i64 s.length ∧ cc = .int .i64 C ∧ C = (c : Int) ∧ c ≤ 1 ∧ s.length ≤ n ∧ Hid (MinusI a b s c) ∧ Hid (wr.ownsRow w.heap.size 3 1 o s.length (ints .i64 s)) ∧ Hid (Below w.heap.size w wr))
    (fun _ _ i _ _ => n - (intOf i).toNat)
  case atStart => exact ⟨[], 0, 0, rfl, rfl, rfl, by omega, by simp, MinusI.start a b, World.ownsRow_nil _ _ _ _, Below.refl _ _⟩
  case round =>
    obtain ⟨s, c, C, rfl, rfl, hC, hc1, hs1, hP, hO, hB⟩ := hrel
    obtain ⟨ao, co, rfl⟩ := owns_ex hO.out
    by_cases hA : s.length < n
    · obtain ⟨x, hx⟩ : ∃ x, (limbs a)[s.length]? = some x := ⟨_, List.getElem?_eq_getElem (by rw [HA.out]; exact hA)⟩
      obtain ⟨g, og, rfl, hg, hc⟩ := H3.out _ x hx
      have hc' := (hB.out.cell (p := ⟨g, og + s.length, none⟩) hg).trans hc
      have hxl := (sm_limbs a).get hx
      have HX := hid hx; clear hx hc
      by_cases hB' : s.length < m
      · obtain ⟨y, hy⟩ : ∃ y, (limbs b)[s.length]? = some y := ⟨_, List.getElem?_eq_getElem (by rw [HB.out]; exact hB')⟩
        obtain ⟨g', og', rfl, hg', hd⟩ := K3.out _ y hy
        have hd' := (hB.out.cell (p := ⟨g', og' + s.length, none⟩) hg').trans hd
        have hyl := (sm_limbs b).get hy
        have HY := hid hy; clear hy hd
        rcases (show c = 0 ∨ c = 1 by omega) with rfl | rfl
        · obtain rfl : C = 0 := by omega
          clear hC
          by_cases hneg : x < y + 0
          · obtain ⟨z, hz0', hz1', hzI⟩ : ∃ z : Nat, x + 1000000000 * 1 = z + 0 + y ∧ z < 1000000000 ∧ Hid ((↑x - ↑y + 1000000000 : Int) = (z : Int)) := ⟨((↑x - ↑y + 1000000000 : Int)).toNat, by omega, by omega, by rw [Hid]; omega⟩
            have HN := hid (hP.out.next (z := z) (c' := 1) (by rw [getD_of HX.out, getD_of HY.out]; omega) hz1' (by omega))
            clear hz0' hz1'
            have q1 : decide ((x : Int) - (y : Int) < 0) = true := by simp <;> omega
            clear hneg
            go_wp2_with (at_builtin; refine wpList_append_own _ rfl _ _ 64 rfl w.heap.size 3 i0 (.int .i64 0) 1 8 Tryz.underlying64 hi hz0 hz1 hz2 rfl (by decide) _ s.length _ rfl (hO.out.alloc _) ⟨wr.heap.size, 0, none⟩ 1 1 [.int .i64 ((↑x - ↑y + 1000000000 : Int))] rfl rfl (cell_one_new wr (.int .i64 ((↑x - ↑y + 1000000000 : Int))) 3) (by simp [Value.oneCell']) (by unfold maxLen; omega) (by omega) (by have := hB.out.size; simp; omega) ?_; intro v' w3 hown3 hgrow3 _; have HO3 := hid hown3; have HG3 := hid hgrow3; clear hown3 hgrow3)
            rw [hzI.out] at HO3
            obtain ⟨n1, n2⟩ := own_next hO.out hB.out HO3.out HG3.out
            have N1 := hid n1; have N2 := hid n2; clear n1 n2 HO3 HG3
            obtain ⟨a3, k3, rfl⟩ := owns_ex N1.out
            go_wp2_with fail
            go_roundw
            case rel => exact ⟨s ++ [z], 1, _, by simp, rfl, by simp, by omega, by simp <;> omega, HN, N1, N2⟩
            case measure => simp [intOf] <;> omega
          · obtain ⟨z, hz0', hz1', hzI⟩ : ∃ z : Nat, x + 1000000000 * 0 = z + 0 + y ∧ z < 1000000000 ∧ Hid ((↑x - ↑y : Int) = (z : Int)) := ⟨((↑x - ↑y : Int)).toNat, by omega, by omega, by rw [Hid]; omega⟩
            have HN := hid (hP.out.next (z := z) (c' := 0) (by rw [getD_of HX.out, getD_of HY.out]; omega) hz1' (by omega))
            clear hz0' hz1'
            have q1 : decide ((x : Int) - (y : Int) < 0) = false := by simp <;> omega
            clear hneg
            go_wp2_with (at_builtin; refine wpList_append_own _ rfl _ _ 64 rfl w.heap.size 3 i0 (.int .i64 0) 1 8 Tryz.underlying64 hi hz0 hz1 hz2 rfl (by decide) _ s.length _ rfl (hO.out.alloc _) ⟨wr.heap.size, 0, none⟩ 1 1 [.int .i64 ((↑x - ↑y : Int))] rfl rfl (cell_one_new wr (.int .i64 ((↑x - ↑y : Int))) 3) (by simp [Value.oneCell']) (by unfold maxLen; omega) (by omega) (by have := hB.out.size; simp; omega) ?_; intro v' w3 hown3 hgrow3 _; have HO3 := hid hown3; have HG3 := hid hgrow3; clear hown3 hgrow3)
            rw [hzI.out] at HO3
            obtain ⟨n1, n2⟩ := own_next hO.out hB.out HO3.out HG3.out
            have N1 := hid n1; have N2 := hid n2; clear n1 n2 HO3 HG3
            obtain ⟨a3, k3, rfl⟩ := owns_ex N1.out
            go_wp2_with fail
            go_roundw
            case rel => exact ⟨s ++ [z], 0, _, by simp, rfl, by simp, by omega, by simp <;> omega, HN, N1, N2⟩
            case measure => simp [intOf] <;> omega
        · obtain rfl : C = 1 := by omega
          clear hC
          by_cases hneg : x < y + 1
          · obtain ⟨z, hz0', hz1', hzI⟩ : ∃ z : Nat, x + 1000000000 * 1 = z + 1 + y ∧ z < 1000000000 ∧ Hid ((↑x - 1 - ↑y + 1000000000 : Int) = (z : Int)) := ⟨((↑x - 1 - ↑y + 1000000000 : Int)).toNat, by omega, by omega, by rw [Hid]; omega⟩
            have HN := hid (hP.out.next (z := z) (c' := 1) (by rw [getD_of HX.out, getD_of HY.out]; omega) hz1' (by omega))
            clear hz0' hz1'
            have q1 : decide ((x : Int) - 1 - (y : Int) < 0) = true := by simp <;> omega
            clear hneg
            go_wp2_with (at_builtin; refine wpList_append_own _ rfl _ _ 64 rfl w.heap.size 3 i0 (.int .i64 0) 1 8 Tryz.underlying64 hi hz0 hz1 hz2 rfl (by decide) _ s.length _ rfl (hO.out.alloc _) ⟨wr.heap.size, 0, none⟩ 1 1 [.int .i64 ((↑x - 1 - ↑y + 1000000000 : Int))] rfl rfl (cell_one_new wr (.int .i64 ((↑x - 1 - ↑y + 1000000000 : Int))) 3) (by simp [Value.oneCell']) (by unfold maxLen; omega) (by omega) (by have := hB.out.size; simp; omega) ?_; intro v' w3 hown3 hgrow3 _; have HO3 := hid hown3; have HG3 := hid hgrow3; clear hown3 hgrow3)
            rw [hzI.out] at HO3
            obtain ⟨n1, n2⟩ := own_next hO.out hB.out HO3.out HG3.out
            have N1 := hid n1; have N2 := hid n2; clear n1 n2 HO3 HG3
            obtain ⟨a3, k3, rfl⟩ := owns_ex N1.out
            go_wp2_with fail
            go_roundw
            case rel => exact ⟨s ++ [z], 1, _, by simp, rfl, by simp, by omega, by simp <;> omega, HN, N1, N2⟩
            case measure => simp [intOf] <;> omega
          · obtain ⟨z, hz0', hz1', hzI⟩ : ∃ z : Nat, x + 1000000000 * 0 = z + 1 + y ∧ z < 1000000000 ∧ Hid ((↑x - 1 - ↑y : Int) = (z : Int)) := ⟨((↑x - 1 - ↑y : Int)).toNat, by omega, by omega, by rw [Hid]; omega⟩
            have HN := hid (hP.out.next (z := z) (c' := 0) (by rw [getD_of HX.out, getD_of HY.out]; omega) hz1' (by omega))
            clear hz0' hz1'
            have q1 : decide ((x : Int) - 1 - (y : Int) < 0) = false := by simp <;> omega
            clear hneg
            go_wp2_with (at_builtin; refine wpList_append_own _ rfl _ _ 64 rfl w.heap.size 3 i0 (.int .i64 0) 1 8 Tryz.underlying64 hi hz0 hz1 hz2 rfl (by decide) _ s.length _ rfl (hO.out.alloc _) ⟨wr.heap.size, 0, none⟩ 1 1 [.int .i64 ((↑x - 1 - ↑y : Int))] rfl rfl (cell_one_new wr (.int .i64 ((↑x - 1 - ↑y : Int))) 3) (by simp [Value.oneCell']) (by unfold maxLen; omega) (by omega) (by have := hB.out.size; simp; omega) ?_; intro v' w3 hown3 hgrow3 _; have HO3 := hid hown3; have HG3 := hid hgrow3; clear hown3 hgrow3)
            rw [hzI.out] at HO3
            obtain ⟨n1, n2⟩ := own_next hO.out hB.out HO3.out HG3.out
            have N1 := hid n1; have N2 := hid n2; clear n1 n2 HO3 HG3
            obtain ⟨a3, k3, rfl⟩ := owns_ex N1.out
            go_wp2_with fail
            go_roundw
            case rel => exact ⟨s ++ [z], 0, _, by simp, rfl, by simp, by omega, by simp <;> omega, HN, N1, N2⟩
            case measure => simp [intOf] <;> omega
      · skip
        rcases (show c = 0 ∨ c = 1 by omega) with rfl | rfl
        · obtain rfl : C = 0 := by omega
          clear hC
          by_cases hneg : x < 0 + 0
          · omega
          · obtain ⟨z, hz0', hz1', hzI⟩ : ∃ z : Nat, x + 1000000000 * 0 = z + 0 + 0 ∧ z < 1000000000 ∧ Hid ((↑x : Int) = (z : Int)) := ⟨((↑x : Int)).toNat, by omega, by omega, by rw [Hid]; omega⟩
            have HN := hid (hP.out.next (z := z) (c' := 0) (by rw [getD_of HX.out, getD_none (by rw [HB.out]; omega)]; omega) hz1' (by omega))
            clear hz0' hz1'
            have q1 : decide ((x : Int) < 0) = false := by simp <;> omega
            clear hneg
            go_wp2_with (at_builtin; refine wpList_append_own _ rfl _ _ 64 rfl w.heap.size 3 i0 (.int .i64 0) 1 8 Tryz.underlying64 hi hz0 hz1 hz2 rfl (by decide) _ s.length _ rfl (hO.out.alloc _) ⟨wr.heap.size, 0, none⟩ 1 1 [.int .i64 ((↑x : Int))] rfl rfl (cell_one_new wr (.int .i64 ((↑x : Int))) 3) (by simp [Value.oneCell']) (by unfold maxLen; omega) (by omega) (by have := hB.out.size; simp; omega) ?_; intro v' w3 hown3 hgrow3 _; have HO3 := hid hown3; have HG3 := hid hgrow3; clear hown3 hgrow3)
            rw [hzI.out] at HO3
            obtain ⟨n1, n2⟩ := own_next hO.out hB.out HO3.out HG3.out
            have N1 := hid n1; have N2 := hid n2; clear n1 n2 HO3 HG3
            obtain ⟨a3, k3, rfl⟩ := owns_ex N1.out
            go_wp2_with fail
            go_roundw
            case rel => exact ⟨s ++ [z], 0, _, by simp, rfl, by simp, by omega, by simp <;> omega, HN, N1, N2⟩
            case measure => simp [intOf] <;> omega
        · obtain rfl : C = 1 := by omega
          clear hC
          by_cases hneg : x < 0 + 1
          · obtain ⟨z, hz0', hz1', hzI⟩ : ∃ z : Nat, x + 1000000000 * 1 = z + 1 + 0 ∧ z < 1000000000 ∧ Hid ((↑x - 1 + 1000000000 : Int) = (z : Int)) := ⟨((↑x - 1 + 1000000000 : Int)).toNat, by omega, by omega, by rw [Hid]; omega⟩
            have HN := hid (hP.out.next (z := z) (c' := 1) (by rw [getD_of HX.out, getD_none (by rw [HB.out]; omega)]; omega) hz1' (by omega))
            clear hz0' hz1'
            have q1 : decide ((x : Int) - 1 < 0) = true := by simp <;> omega
            clear hneg
            go_wp2_with (at_builtin; refine wpList_append_own _ rfl _ _ 64 rfl w.heap.size 3 i0 (.int .i64 0) 1 8 Tryz.underlying64 hi hz0 hz1 hz2 rfl (by decide) _ s.length _ rfl (hO.out.alloc _) ⟨wr.heap.size, 0, none⟩ 1 1 [.int .i64 ((↑x - 1 + 1000000000 : Int))] rfl rfl (cell_one_new wr (.int .i64 ((↑x - 1 + 1000000000 : Int))) 3) (by simp [Value.oneCell']) (by unfold maxLen; omega) (by omega) (by have := hB.out.size; simp; omega) ?_; intro v' w3 hown3 hgrow3 _; have HO3 := hid hown3; have HG3 := hid hgrow3; clear hown3 hgrow3)
            rw [hzI.out] at HO3
            obtain ⟨n1, n2⟩ := own_next hO.out hB.out HO3.out HG3.out
            have N1 := hid n1; have N2 := hid n2; clear n1 n2 HO3 HG3
            obtain ⟨a3, k3, rfl⟩ := owns_ex N1.out
            go_wp2_with fail
            go_roundw
            case rel => exact ⟨s ++ [z], 1, _, by simp, rfl, by simp, by omega, by simp <;> omega, HN, N1, N2⟩
            case measure => simp [intOf] <;> omega
          · obtain ⟨z, hz0', hz1', hzI⟩ : ∃ z : Nat, x + 1000000000 * 0 = z + 1 + 0 ∧ z < 1000000000 ∧ Hid ((↑x - 1 : Int) = (z : Int)) := ⟨((↑x - 1 : Int)).toNat, by omega, by omega, by rw [Hid]; omega⟩
            have HN := hid (hP.out.next (z := z) (c' := 0) (by rw [getD_of HX.out, getD_none (by rw [HB.out]; omega)]; omega) hz1' (by omega))
            clear hz0' hz1'
            have q1 : decide ((x : Int) - 1 < 0) = false := by simp <;> omega
            clear hneg
            go_wp2_with (at_builtin; refine wpList_append_own _ rfl _ _ 64 rfl w.heap.size 3 i0 (.int .i64 0) 1 8 Tryz.underlying64 hi hz0 hz1 hz2 rfl (by decide) _ s.length _ rfl (hO.out.alloc _) ⟨wr.heap.size, 0, none⟩ 1 1 [.int .i64 ((↑x - 1 : Int))] rfl rfl (cell_one_new wr (.int .i64 ((↑x - 1 : Int))) 3) (by simp [Value.oneCell']) (by unfold maxLen; omega) (by omega) (by have := hB.out.size; simp; omega) ?_; intro v' w3 hown3 hgrow3 _; have HO3 := hid hown3; have HG3 := hid hgrow3; clear hown3 hgrow3)
            rw [hzI.out] at HO3
            obtain ⟨n1, n2⟩ := own_next hO.out hB.out HO3.out HG3.out
            have N1 := hid n1; have N2 := hid n2; clear n1 n2 HO3 HG3
            obtain ⟨a3, k3, rfl⟩ := owns_ex N1.out
            go_wp2_with fail
            go_roundw
            case rel => exact ⟨s ++ [z], 0, _, by simp, rfl, by simp, by omega, by simp <;> omega, HN, N1, N2⟩
            case measure => simp [intOf] <;> omega
    · obtain rfl : s.length = n := by omega
      have hv := hid (hP.out.done HA.out.symm HL.out)
      go_wp2_with (go_at_call 84; refine (r1_trim _ _ s hP.out.sm (Row.of_owns hO.out)).mono ?_; rintro e w1 ⟨⟨v1, rfl, hv1⟩, rfl⟩)
      go_ret
      exact ⟨⟨v1, rfl, by rw [← hv.out]; exact hv1⟩, hB.out⟩
end Go.Proofs.YtpehhgkghgbhiaaGreatDoor
namespace Go.Proofs.YtpehhgkghgbhiaaGreatDoor
theorem sgn_mulN (m : Bool) (n d : Nat) : sgn m (n * d) = sgn m n * (d : Int) := by cases m <;> simp [sgn, Int.neg_mul]
theorem q_add (p q : Rat) : p + q = mkRat (sgn (decide (p.num < 0)) (p.num.natAbs * q.den) + sgn (decide (q.num < 0)) (q.num.natAbs * p.den)) (p.den * q.den) := by
  rw [sgn_mulN, sgn_mulN, sgn_of, sgn_of, Rat.add_def', Int.mul_comm q.num]
  try rw [Int.mul_comm q.num]
theorem sgn_same (m : Bool) (x y : Nat) : sgn m x + sgn m y = sgn m (x + y) := by cases m <;> simp [sgn] <;> omega
theorem sgn_less {m1 m2 : Bool} (h : m1 ≠ m2) {x y : Nat} (hl : x < y) : sgn m1 x + sgn m2 y = sgn m2 (y - x) := by
  cases m1 <;> cases m2 <;> simp [sgn] at * <;> omega
theorem sgn_more {m1 m2 : Bool} (h : m1 ≠ m2) {x y : Nat} (hl : y ≤ x) : sgn m1 x + sgn m2 y = sgn m1 (x - y) := by
  cases m1 <;> cases m2 <;> simp [sgn] at * <;> omega
end Go.Proofs.YtpehhgkghgbhiaaGreatDoor
namespace Go.Proofs.YtpehhgkghgbhiaaGreatDoor
open Go.RowKit
set_option linter.unusedVariables false
set_option linter.unusedSimpArgs false
/-- The ways of Plus: the sign and the numerator of the sum. -/
def PlKey (m1 m2 : Bool) (x y : Nat) (m : Bool) (s : Nat) : Prop :=
  (m1 = m2 ∧ m = m1 ∧ s = x + y) ∨ ((m1 == m2) = false ∧ x < y ∧ m = m2 ∧ s = y - x) ∨ ((m1 == m2) = false ∧ y ≤ x ∧ m = m1 ∧ s = x - y)
theorem limbs_add {a b p : Nat} (ha : (limbs a).length ≤ p) (hb : (limbs b).length ≤ p) : (limbs (a + b)).length ≤ p + 1 := by
  refine limbs_length_le.2 ?_
  have h1 := limbs_length_le.1 ha
  have h2 := limbs_length_le.1 hb
  rw [Nat.pow_succ]
  omega
theorem ord_ge {x y : Nat} (h : y ≤ x) : decide (ordN x y < 0) = false := by
  unfold ordN
  split
  · omega
  · split <;> simp
set_option maxRecDepth 100000 in
set_option maxHeartbeats 4000000 in
theorem r2_Plus_walk (w : World) (m1 m2 m : Bool) (N1 D1 N2 D2 : Value) (n1 d1 n2 d2 s : Nat) (hn1 : IsN .i64 w N1 n1) (hd1 : IsN .i64 w D1 d1) (hn2 : IsN .i64 w N2 n2) (hd2 : IsN .i64 w D2 d2)
    (l1 : (limbs n1).length ≤ 100000) (l2 : (limbs d1).length ≤ 100000) (l3 : (limbs n2).length ≤ 100000) (l4 : (limbs d2).length ≤ 100000) (p1 : 0 < d1) (p2 : 0 < d2) (key : PlKey m1 m2 (n1 * d2) (n2 * d1) m s) :
    Calls Tryz.prog 51 #[.agg #[.bool m1, N1, D1], .agg #[.bool m2, N2, D2]] w fun e w' => RetQ .i64 (qmk m s (d1 * d2)) e w' ∧ Below w.heap.size w w' := by
  have HN1 := hid hn1; have HD1 := hid hd1; have HN2 := hid hn2; have HD2 := hid hd2
  have L1 := hid (Nat.le_trans (limbs_mul l1 l4) (show 100000 + 100000 ≤ 1000000 by omega))
  have L2 := hid (Nat.le_trans (limbs_mul l3 l2) (show 100000 + 100000 ≤ 1000000 by omega))
  have L3 := hid (Nat.le_trans (limbs_mul l2 l4) (show 100000 + 100000 ≤ 1000000 by omega))
  have H1 := hid (Nat.le_trans l1 (show 100000 ≤ 1000000 by omega))
  have H2 := hid (Nat.le_trans l2 (show 100000 ≤ 1000000 by omega))
  have H3 := hid (Nat.le_trans l3 (show 100000 ≤ 1000000 by omega))
  have H4 := hid (Nat.le_trans l4 (show 100000 ≤ 1000000 by omega))
  have hD := hid (Nat.mul_pos p1 p2)
  have LS : Hid ((limbs s).length ≤ 1000000) := by
    have q1 := limbs_mul l1 l4
    have q2 := limbs_mul l3 l2
    have q3 := limbs_add q1 q2
    have q4 : (limbs s).length ≤ (limbs (n1 * d2 + n2 * d1)).length := limbs_length_mono (by rcases key with ⟨-, -, rfl⟩ | ⟨-, -, -, rfl⟩ | ⟨-, -, -, rfl⟩ <;> omega)
    show _ ≤ _
    omega
  clear l1 l2 l3 l4 p1 p2
  obtain ⟨a1, c1, rfl, _⟩ := hn1.openI
  obtain ⟨a2, c2, rfl, _⟩ := hd1.openI
  obtain ⟨a3, c3, rfl, _⟩ := hn2.openI
  obtain ⟨a4, c4, rfl, _⟩ := hd2.openI
  obtain ⟨k1, hk1⟩ : ∃ k, (limbs n1).length = k := ⟨_, rfl⟩
  obtain ⟨k2, hk2⟩ : ∃ k, (limbs d1).length = k := ⟨_, rfl⟩
  obtain ⟨k3, hk3⟩ : ∃ k, (limbs n2).length = k := ⟨_, rfl⟩
  obtain ⟨k4, hk4⟩ : ∃ k, (limbs d2).length = k := ⟨_, rfl⟩
  rw [hk1] at HN1 ⊢
  rw [hk2] at HD1 ⊢
  rw [hk3] at HN2 ⊢
  rw [hk4] at HD2 ⊢
  clear hn1 hd1 hn2 hd2 hk1 hk2 hk3 hk4
  obtain ⟨x, hx⟩ : ∃ x, n1 * d2 = x := ⟨_, rfl⟩
  obtain ⟨y, hy⟩ : ∃ y, n2 * d1 = y := ⟨_, rfl⟩
  obtain ⟨z, hz⟩ : ∃ z, d1 * d2 = z := ⟨_, rfl⟩
  rw [hx, hy] at key
  rw [hx] at L1
  rw [hy] at L2
  rw [hz] at hD L3 ⊢
  have HX := hid hx; have HY := hid hy; have HZ := hid hz
  clear hx hy hz
  unfold PlKey at key
  rcases key with ⟨rfl, rfl, rfl⟩ | ⟨hne, hlt, rfl, rfl⟩ | ⟨hne, hle, rfl, rfl⟩
  · go_enter Tryz.func51, Tryz.ntmps51
    go_wp2_with fail
    obtain ⟨W, hW⟩ : ∃ W, ((w.alloc (.cells #[.bool m, .slice a1 k1 c1, .slice a2 k2 c2] 66)).alloc (.cells #[.bool m, .slice a3 k3 c3, .slice a4 k4 c4] 66)).alloc (.cells #[.bool false, .slice none 0 0, .slice none 0 0] 66) = W := ⟨_, rfl⟩
    rw [hW]
    have X0 : Below w.heap.size w W := by rw [← hW]; exact (((Below.refl _ _).alloc (Nat.le_refl _) _).alloc (by simp) _).alloc (by simp; omega) _
    have Y0 : Blk W w.heap.size #[.bool m, .slice a1 k1 c1, .slice a2 k2 c2] 66 := by rw [← hW]; exact ((Blk.new w _ _).alloc _).alloc _
    have Y1 : Blk W (w.heap.size + 1) #[.bool m, .slice a3 k3 c3, .slice a4 k4 c4] 66 := by rw [← hW]; exact (Blk.made (w.alloc _) _ _ (by simp)).alloc _
    have Y2 : Blk W (w.heap.size + 1 + 1) #[.bool false, .slice none 0 0, .slice none 0 0] 66 := by rw [← hW]; exact Blk.made ((w.alloc _).alloc _) _ _ (by simp)
    have K : Hid (∀ w', Below W.heap.size W w' → w'.cell? ⟨w.heap.size, 0, none⟩ = some (.bool m) ∧ w'.cell? ⟨w.heap.size, 1, none⟩ = some (.slice a1 k1 c1) ∧ w'.cell? ⟨w.heap.size, 2, none⟩ = some (.slice a2 k2 c2) ∧ w'.cell? ⟨w.heap.size + 1, 0, none⟩ = some (.bool m) ∧ w'.cell? ⟨w.heap.size + 1, 1, none⟩ = some (.slice a3 k3 c3) ∧ w'.cell? ⟨w.heap.size + 1, 2, none⟩ = some (.slice a4 k4 c4)) := fun w' hb => ⟨(Y0.call hb).cell 0, (Y0.call hb).cell 1, (Y0.call hb).cell 2, (Y1.call hb).cell 0, (Y1.call hb).cell 1, (Y1.call hb).cell 2⟩
    have HY0 := hid Y0; have HY1 := hid Y1; have HY2 := hid Y2; have HX0 := hid X0
    obtain ⟨i0, i1, i2, i3, i4, i5⟩ := K W (Below.refl _ _)
    clear Y0 Y1 Y2 X0 hW
    have XN1 := hid (HN1.out.call HX0.out); have XD1 := hid (HD1.out.call HX0.out); have XN2 := hid (HN2.out.call HX0.out); have XD2 := hid (HD2.out.call HX0.out)
    go_region_held3 (fun w' => w'.cell? ⟨w.heap.size, 0, none⟩ = some (.bool m) ∧ w'.cell? ⟨w.heap.size, 1, none⟩ = some (.slice a1 k1 c1) ∧ w'.cell? ⟨w.heap.size, 2, none⟩ = some (.slice a2 k2 c2) ∧ w'.cell? ⟨w.heap.size + 1, 0, none⟩ = some (.bool m) ∧ w'.cell? ⟨w.heap.size + 1, 1, none⟩ = some (.slice a3 k3 c3) ∧ w'.cell? ⟨w.heap.size + 1, 2, none⟩ = some (.slice a4 k4 c4))
      (first
        | exact K.out _ (Below.refl _ _).drew
        | exact K.out _ bb2.out
        | exact K.out _ bb1.out)
      (first
        | (go_at_call_of 71 (Value.slice a1 k1 c1); refine (r1_Times _ _ _ n1 d2 (XN1.out.call (by first | exact bb2.out | exact (Below.refl _ _).drew)) (XD2.out.call (by first | exact bb2.out | exact (Below.refl _ _).drew)) H1.out H4.out).mono ?_; rintro e w1 ⟨⟨v1, rfl, hv1⟩, hb1⟩; have bb1 := hid (bnext (by first | exact bb2.out | exact (Below.refl _ _).drew) hb1))
        | (go_at_call_of 71 (Value.slice a3 k3 c3); refine (r1_Times _ _ _ n2 d1 (XN2.out.call (by first | exact bb1.out | exact (Below.refl _ _).drew)) (XD1.out.call (by first | exact bb1.out | exact (Below.refl _ _).drew)) H3.out H2.out).mono ?_; rintro e w2 ⟨⟨v2, rfl, hv2⟩, hb2⟩; have bb2 := hid (bnext (by first | exact bb1.out | exact (Below.refl _ _).drew) hb2)))
    have V2 := hid hv2; have V1 := hid (hv1.call hb2)
    rw [HX.out] at V1
    rw [HY.out] at V2
    clear hv1 hv2 hb1 hb2 i0 i1 i2 i3 i4 i5
    obtain ⟨i0, i1, i2, i3, i4, i5⟩ := K.out _ bb2.out
    go_wp2_with fail
    refine (r1_Times _ _ _ d1 d2 (XD1.out.call bb2.out) (XD2.out.call bb2.out) H2.out H4.out).mono ?_; rintro e w3 ⟨⟨v3, rfl, hv3⟩, hb3⟩
    have bb3 := hid (bnext bb2.out hb3)
    rw [HZ.out] at hv3
    have V3 := hid hv3
    have V1' := hid (V1.out.call hb3); have V2' := hid (V2.out.call hb3)
    clear hv3 hb3 i0 i1 i2 i3 i4 i5 V1 V2
    obtain ⟨i0, i1, i2, i3, i4, i5⟩ := K.out _ bb3.out
    obtain ⟨ja1, jc1, rfl, _⟩ := V1'.out.openI
    obtain ⟨ja2, jc2, rfl, _⟩ := V2'.out.openI
    obtain ⟨ja3, jc3, rfl, _⟩ := V3.out.openI
    obtain ⟨jk1, hj1⟩ : ∃ k, (limbs x).length = k := ⟨_, rfl⟩
    obtain ⟨jk2, hj2⟩ : ∃ k, (limbs y).length = k := ⟨_, rfl⟩
    obtain ⟨jk3, hj3⟩ : ∃ k, (limbs z).length = k := ⟨_, rfl⟩
    rw [hj1] at V1' ⊢
    rw [hj2] at V2' ⊢
    rw [hj3] at V3 ⊢
    clear hj1 hj2 hj3
    go_wp2_with fail
    have K2 : Hid (∀ w1 x y z, Below W.heap.size W w1 → ∀ w', ((w1.setCell ⟨w.heap.size + 1 + 1, 0, none⟩ x).setCell ⟨w.heap.size + 1 + 1, 1, none⟩ y).setCell ⟨w.heap.size + 1 + 1, 2, none⟩ z = w' → w'.cell? ⟨w.heap.size, 0, none⟩ = some (.bool m) ∧ w'.cell? ⟨w.heap.size, 1, none⟩ = some (.slice a1 k1 c1) ∧ w'.cell? ⟨w.heap.size, 2, none⟩ = some (.slice a2 k2 c2) ∧ w'.cell? ⟨w.heap.size + 1, 0, none⟩ = some (.bool m) ∧ w'.cell? ⟨w.heap.size + 1, 1, none⟩ = some (.slice a3 k3 c3) ∧ w'.cell? ⟨w.heap.size + 1, 2, none⟩ = some (.slice a4 k4 c4)) := by
      rintro w1 x y z hb _ rfl
      have Z0 := (((HY0.out.call hb).other (a := ⟨w.heap.size + 1 + 1, 0, none⟩) (by simp; omega) x).other (a := ⟨w.heap.size + 1 + 1, 1, none⟩) (by simp; omega) y).other (a := ⟨w.heap.size + 1 + 1, 2, none⟩) (by simp; omega) z
      have Z1 := (((HY1.out.call hb).other (a := ⟨w.heap.size + 1 + 1, 0, none⟩) (by simp) x).other (a := ⟨w.heap.size + 1 + 1, 1, none⟩) (by simp) y).other (a := ⟨w.heap.size + 1 + 1, 2, none⟩) (by simp) z
      exact ⟨Z0.cell 0, Z0.cell 1, Z0.cell 2, Z1.cell 0, Z1.cell 1, Z1.cell 2⟩
    go_region_held3 (fun w' => w'.cell? ⟨w.heap.size, 0, none⟩ = some (.bool m) ∧ w'.cell? ⟨w.heap.size, 1, none⟩ = some (.slice a1 k1 c1) ∧ w'.cell? ⟨w.heap.size, 2, none⟩ = some (.slice a2 k2 c2) ∧ w'.cell? ⟨w.heap.size + 1, 0, none⟩ = some (.bool m) ∧ w'.cell? ⟨w.heap.size + 1, 1, none⟩ = some (.slice a3 k3 c3) ∧ w'.cell? ⟨w.heap.size + 1, 2, none⟩ = some (.slice a4 k4 c4))
      (first
        | exact K.out _ (by first | exact bb3.out.drew | exact below_drewN bb3.out _)
        | exact K2.out _ _ _ _ bb6.out _ rfl
        | exact K.out _ bb6.out
        | exact K.out _ bb5.out)
      (first
        | (go_at_call 43; refine (r1_Plus _ _ _ x y (V1'.out.call (by first | exact (Below.refl _ _).drew | exact below_drewN (Below.refl _ _) _ | exact Below.refl _ _)) (V2'.out.call (by first | exact (Below.refl _ _).drew | exact below_drewN (Below.refl _ _) _ | exact Below.refl _ _)) L1.out L2.out).mono ?_; rintro e w5 ⟨⟨v5, rfl, hv5⟩, hb5⟩; have bb5 := hid (bnext (by first | exact bb3.out.drew | exact below_drewN bb3.out _ | exact bb3.out) hb5); have V5 := hid hv5; have Z5 := hid ((V3.out.call (Below.refl _ _).drew).call hb5))
        | (go_at_call 56; refine (r2_Reduce _ _ _ _ (x + y) z V5.out Z5.out hD.out LS.out L3.out).mono ?_; rintro e w6 ⟨⟨v6, rfl, hv6⟩, hb6⟩; obtain ⟨N6, D6, rfl, hN6, hD6⟩ := hv6.ex; have bb6 := hid (bnext bb5.out hb6); obtain ⟨a5, c5, rfl, _⟩ := hN6.openI; obtain ⟨a6, c6, rfl, _⟩ := hD6.openI; have HN6 := hid hN6; have HD6 := hid hD6; have Z := hid (HY2.out.call bb6.out); have t0 := Z.out.cell 0; have t1 := Z.out.cell 1; have t2 := Z.out.cell 2; have t3 := Z.out.free 0; have t4 := Z.out.free 1; have t5 := Z.out.free 2; clear hv6 hN6 hD6))
    go_wp2_with fail
    obtain ⟨s1, s2⟩ := set3 Z.out (decide ((qmk m (x + y) z).num < 0)) a5 a6 (limbs (qmk m (x + y) z).num.natAbs).length c5 (limbs (qmk m (x + y) z).den).length c6
    have f0 := s2.cell 0
    have f1 := s2.cell 1
    have f2 := s2.cell 2
    simp at f0 f1 f2
    refine bodyPost_ret (v := .agg #[.bool (decide ((qmk m (x + y) z).num < 0)), .slice a5 (limbs (qmk m (x + y) z).num.natAbs).length c5, .slice a6 (limbs (qmk m (x + y) z).den).length c6]) (by simp [results, Tryz.results51, go_sem, f0, f1, f2]) rfl ⟨⟨_, rfl, ⟨_, _, rfl, s1 _ _ _ HN6.out, s1 _ _ _ HD6.out⟩⟩, ?_⟩
    exact (((HX0.out.trans (bb6.out.mono (Nat.le_trans (Nat.le_refl _) HX0.out.size))).setCell (by simp; omega) _).setCell (by simp; omega) _).setCell (by simp; omega) _

  · have HLT := hid hlt; have HLE := hid (Nat.le_of_lt hlt)
    clear hlt
    go_enter Tryz.func51, Tryz.ntmps51
    go_wp2_with fail
    obtain ⟨W, hW⟩ : ∃ W, ((w.alloc (.cells #[.bool m1, .slice a1 k1 c1, .slice a2 k2 c2] 66)).alloc (.cells #[.bool m, .slice a3 k3 c3, .slice a4 k4 c4] 66)).alloc (.cells #[.bool false, .slice none 0 0, .slice none 0 0] 66) = W := ⟨_, rfl⟩
    rw [hW]
    have X0 : Below w.heap.size w W := by rw [← hW]; exact (((Below.refl _ _).alloc (Nat.le_refl _) _).alloc (by simp) _).alloc (by simp; omega) _
    have Y0 : Blk W w.heap.size #[.bool m1, .slice a1 k1 c1, .slice a2 k2 c2] 66 := by rw [← hW]; exact ((Blk.new w _ _).alloc _).alloc _
    have Y1 : Blk W (w.heap.size + 1) #[.bool m, .slice a3 k3 c3, .slice a4 k4 c4] 66 := by rw [← hW]; exact (Blk.made (w.alloc _) _ _ (by simp)).alloc _
    have Y2 : Blk W (w.heap.size + 1 + 1) #[.bool false, .slice none 0 0, .slice none 0 0] 66 := by rw [← hW]; exact Blk.made ((w.alloc _).alloc _) _ _ (by simp)
    have K : Hid (∀ w', Below W.heap.size W w' → w'.cell? ⟨w.heap.size, 0, none⟩ = some (.bool m1) ∧ w'.cell? ⟨w.heap.size, 1, none⟩ = some (.slice a1 k1 c1) ∧ w'.cell? ⟨w.heap.size, 2, none⟩ = some (.slice a2 k2 c2) ∧ w'.cell? ⟨w.heap.size + 1, 0, none⟩ = some (.bool m) ∧ w'.cell? ⟨w.heap.size + 1, 1, none⟩ = some (.slice a3 k3 c3) ∧ w'.cell? ⟨w.heap.size + 1, 2, none⟩ = some (.slice a4 k4 c4)) := fun w' hb => ⟨(Y0.call hb).cell 0, (Y0.call hb).cell 1, (Y0.call hb).cell 2, (Y1.call hb).cell 0, (Y1.call hb).cell 1, (Y1.call hb).cell 2⟩
    have HY0 := hid Y0; have HY1 := hid Y1; have HY2 := hid Y2; have HX0 := hid X0
    obtain ⟨i0, i1, i2, i3, i4, i5⟩ := K W (Below.refl _ _)
    clear Y0 Y1 Y2 X0 hW
    have XN1 := hid (HN1.out.call HX0.out); have XD1 := hid (HD1.out.call HX0.out); have XN2 := hid (HN2.out.call HX0.out); have XD2 := hid (HD2.out.call HX0.out)
    go_region_held3 (fun w' => w'.cell? ⟨w.heap.size, 0, none⟩ = some (.bool m1) ∧ w'.cell? ⟨w.heap.size, 1, none⟩ = some (.slice a1 k1 c1) ∧ w'.cell? ⟨w.heap.size, 2, none⟩ = some (.slice a2 k2 c2) ∧ w'.cell? ⟨w.heap.size + 1, 0, none⟩ = some (.bool m) ∧ w'.cell? ⟨w.heap.size + 1, 1, none⟩ = some (.slice a3 k3 c3) ∧ w'.cell? ⟨w.heap.size + 1, 2, none⟩ = some (.slice a4 k4 c4))
      (first
        | exact K.out _ (Below.refl _ _).drew
        | exact K.out _ bb2.out
        | exact K.out _ bb1.out)
      (first
        | (go_at_call_of 71 (Value.slice a1 k1 c1); refine (r1_Times _ _ _ n1 d2 (XN1.out.call (by first | exact bb2.out | exact (Below.refl _ _).drew)) (XD2.out.call (by first | exact bb2.out | exact (Below.refl _ _).drew)) H1.out H4.out).mono ?_; rintro e w1 ⟨⟨v1, rfl, hv1⟩, hb1⟩; have bb1 := hid (bnext (by first | exact bb2.out | exact (Below.refl _ _).drew) hb1))
        | (go_at_call_of 71 (Value.slice a3 k3 c3); refine (r1_Times _ _ _ n2 d1 (XN2.out.call (by first | exact bb1.out | exact (Below.refl _ _).drew)) (XD1.out.call (by first | exact bb1.out | exact (Below.refl _ _).drew)) H3.out H2.out).mono ?_; rintro e w2 ⟨⟨v2, rfl, hv2⟩, hb2⟩; have bb2 := hid (bnext (by first | exact bb1.out | exact (Below.refl _ _).drew) hb2)))
    have V2 := hid hv2; have V1 := hid (hv1.call hb2)
    rw [HX.out] at V1
    rw [HY.out] at V2
    clear hv1 hv2 hb1 hb2 i0 i1 i2 i3 i4 i5
    obtain ⟨i0, i1, i2, i3, i4, i5⟩ := K.out _ bb2.out
    go_wp2_with fail
    refine (r1_Times _ _ _ d1 d2 (XD1.out.call bb2.out) (XD2.out.call bb2.out) H2.out H4.out).mono ?_; rintro e w3 ⟨⟨v3, rfl, hv3⟩, hb3⟩
    have bb3 := hid (bnext bb2.out hb3)
    rw [HZ.out] at hv3
    have V3 := hid hv3
    have V1' := hid (V1.out.call hb3); have V2' := hid (V2.out.call hb3)
    clear hv3 hb3 i0 i1 i2 i3 i4 i5 V1 V2
    obtain ⟨i0, i1, i2, i3, i4, i5⟩ := K.out _ bb3.out
    obtain ⟨ja1, jc1, rfl, _⟩ := V1'.out.openI
    obtain ⟨ja2, jc2, rfl, _⟩ := V2'.out.openI
    obtain ⟨ja3, jc3, rfl, _⟩ := V3.out.openI
    obtain ⟨jk1, hj1⟩ : ∃ k, (limbs x).length = k := ⟨_, rfl⟩
    obtain ⟨jk2, hj2⟩ : ∃ k, (limbs y).length = k := ⟨_, rfl⟩
    obtain ⟨jk3, hj3⟩ : ∃ k, (limbs z).length = k := ⟨_, rfl⟩
    rw [hj1] at V1' ⊢
    rw [hj2] at V2' ⊢
    rw [hj3] at V3 ⊢
    clear hj1 hj2 hj3
    go_wp2_with fail
    refine (r1_Order _ _ _ x y V1'.out V2'.out).mono ?_; rintro e w4 ⟨rfl, hb4⟩
    have bb4 := hid (bnext bb3.out hb4)
    have W1 := hid (V1'.out.call hb4); have W2 := hid (V2'.out.call hb4); have W3 := hid (V3.out.call hb4)
    clear hb4 i0 i1 i2 i3 i4 i5
    obtain ⟨i0, i1, i2, i3, i4, i5⟩ := K.out _ bb4.out
    rw [ordN_lt HLT.out]
    go_wp2_with fail
    have K2 : Hid (∀ w1 x y z, Below W.heap.size W w1 → ∀ w', ((w1.setCell ⟨w.heap.size + 1 + 1, 0, none⟩ x).setCell ⟨w.heap.size + 1 + 1, 1, none⟩ y).setCell ⟨w.heap.size + 1 + 1, 2, none⟩ z = w' → w'.cell? ⟨w.heap.size, 0, none⟩ = some (.bool m1) ∧ w'.cell? ⟨w.heap.size, 1, none⟩ = some (.slice a1 k1 c1) ∧ w'.cell? ⟨w.heap.size, 2, none⟩ = some (.slice a2 k2 c2) ∧ w'.cell? ⟨w.heap.size + 1, 0, none⟩ = some (.bool m) ∧ w'.cell? ⟨w.heap.size + 1, 1, none⟩ = some (.slice a3 k3 c3) ∧ w'.cell? ⟨w.heap.size + 1, 2, none⟩ = some (.slice a4 k4 c4)) := by
      rintro w1 x y z hb _ rfl
      have Z0 := (((HY0.out.call hb).other (a := ⟨w.heap.size + 1 + 1, 0, none⟩) (by simp; omega) x).other (a := ⟨w.heap.size + 1 + 1, 1, none⟩) (by simp; omega) y).other (a := ⟨w.heap.size + 1 + 1, 2, none⟩) (by simp; omega) z
      have Z1 := (((HY1.out.call hb).other (a := ⟨w.heap.size + 1 + 1, 0, none⟩) (by simp) x).other (a := ⟨w.heap.size + 1 + 1, 1, none⟩) (by simp) y).other (a := ⟨w.heap.size + 1 + 1, 2, none⟩) (by simp) z
      exact ⟨Z0.cell 0, Z0.cell 1, Z0.cell 2, Z1.cell 0, Z1.cell 1, Z1.cell 2⟩
    go_region_held3 (fun w' => w'.cell? ⟨w.heap.size, 0, none⟩ = some (.bool m1) ∧ w'.cell? ⟨w.heap.size, 1, none⟩ = some (.slice a1 k1 c1) ∧ w'.cell? ⟨w.heap.size, 2, none⟩ = some (.slice a2 k2 c2) ∧ w'.cell? ⟨w.heap.size + 1, 0, none⟩ = some (.bool m) ∧ w'.cell? ⟨w.heap.size + 1, 1, none⟩ = some (.slice a3 k3 c3) ∧ w'.cell? ⟨w.heap.size + 1, 2, none⟩ = some (.slice a4 k4 c4))
      (first
        | exact K.out _ (by first | exact bb4.out.drew | exact below_drewN bb4.out _)
        | exact K2.out _ _ _ _ bb6.out _ rfl
        | exact K.out _ bb6.out
        | exact K.out _ bb5.out)
      (first
        | (go_at_call 86; refine (r1_Minus _ _ _ y x (W2.out.call (by first | exact (Below.refl _ _).drew | exact below_drewN (Below.refl _ _) _ | exact Below.refl _ _)) (W1.out.call (by first | exact (Below.refl _ _).drew | exact below_drewN (Below.refl _ _) _ | exact Below.refl _ _)) HLE.out L2.out).mono ?_; rintro e w5 ⟨⟨v5, rfl, hv5⟩, hb5⟩; have bb5 := hid (bnext (by first | exact bb4.out.drew | exact below_drewN bb4.out _ | exact bb4.out) hb5); have V5 := hid hv5; have Z5 := hid ((W3.out.call (Below.refl _ _).drew).call hb5))
        | (go_at_call 56; refine (r2_Reduce _ _ _ _ (y - x) z V5.out Z5.out hD.out LS.out L3.out).mono ?_; rintro e w6 ⟨⟨v6, rfl, hv6⟩, hb6⟩; obtain ⟨N6, D6, rfl, hN6, hD6⟩ := hv6.ex; have bb6 := hid (bnext bb5.out hb6); obtain ⟨a5, c5, rfl, _⟩ := hN6.openI; obtain ⟨a6, c6, rfl, _⟩ := hD6.openI; have HN6 := hid hN6; have HD6 := hid hD6; have Z := hid (HY2.out.call bb6.out); have t0 := Z.out.cell 0; have t1 := Z.out.cell 1; have t2 := Z.out.cell 2; have t3 := Z.out.free 0; have t4 := Z.out.free 1; have t5 := Z.out.free 2; clear hv6 hN6 hD6))
    go_wp2_with fail
    obtain ⟨s1, s2⟩ := set3 Z.out (decide ((qmk m (y - x) z).num < 0)) a5 a6 (limbs (qmk m (y - x) z).num.natAbs).length c5 (limbs (qmk m (y - x) z).den).length c6
    have f0 := s2.cell 0
    have f1 := s2.cell 1
    have f2 := s2.cell 2
    simp at f0 f1 f2
    refine bodyPost_ret (v := .agg #[.bool (decide ((qmk m (y - x) z).num < 0)), .slice a5 (limbs (qmk m (y - x) z).num.natAbs).length c5, .slice a6 (limbs (qmk m (y - x) z).den).length c6]) (by simp [results, Tryz.results51, go_sem, f0, f1, f2]) rfl ⟨⟨_, rfl, ⟨_, _, rfl, s1 _ _ _ HN6.out, s1 _ _ _ HD6.out⟩⟩, ?_⟩
    exact (((HX0.out.trans (bb6.out.mono (Nat.le_trans (Nat.le_refl _) HX0.out.size))).setCell (by simp; omega) _).setCell (by simp; omega) _).setCell (by simp; omega) _
  · have HLE := hid hle
    clear hle
    go_enter Tryz.func51, Tryz.ntmps51
    go_wp2_with fail
    obtain ⟨W, hW⟩ : ∃ W, ((w.alloc (.cells #[.bool m, .slice a1 k1 c1, .slice a2 k2 c2] 66)).alloc (.cells #[.bool m2, .slice a3 k3 c3, .slice a4 k4 c4] 66)).alloc (.cells #[.bool false, .slice none 0 0, .slice none 0 0] 66) = W := ⟨_, rfl⟩
    rw [hW]
    have X0 : Below w.heap.size w W := by rw [← hW]; exact (((Below.refl _ _).alloc (Nat.le_refl _) _).alloc (by simp) _).alloc (by simp; omega) _
    have Y0 : Blk W w.heap.size #[.bool m, .slice a1 k1 c1, .slice a2 k2 c2] 66 := by rw [← hW]; exact ((Blk.new w _ _).alloc _).alloc _
    have Y1 : Blk W (w.heap.size + 1) #[.bool m2, .slice a3 k3 c3, .slice a4 k4 c4] 66 := by rw [← hW]; exact (Blk.made (w.alloc _) _ _ (by simp)).alloc _
    have Y2 : Blk W (w.heap.size + 1 + 1) #[.bool false, .slice none 0 0, .slice none 0 0] 66 := by rw [← hW]; exact Blk.made ((w.alloc _).alloc _) _ _ (by simp)
    have K : Hid (∀ w', Below W.heap.size W w' → w'.cell? ⟨w.heap.size, 0, none⟩ = some (.bool m) ∧ w'.cell? ⟨w.heap.size, 1, none⟩ = some (.slice a1 k1 c1) ∧ w'.cell? ⟨w.heap.size, 2, none⟩ = some (.slice a2 k2 c2) ∧ w'.cell? ⟨w.heap.size + 1, 0, none⟩ = some (.bool m2) ∧ w'.cell? ⟨w.heap.size + 1, 1, none⟩ = some (.slice a3 k3 c3) ∧ w'.cell? ⟨w.heap.size + 1, 2, none⟩ = some (.slice a4 k4 c4)) := fun w' hb => ⟨(Y0.call hb).cell 0, (Y0.call hb).cell 1, (Y0.call hb).cell 2, (Y1.call hb).cell 0, (Y1.call hb).cell 1, (Y1.call hb).cell 2⟩
    have HY0 := hid Y0; have HY1 := hid Y1; have HY2 := hid Y2; have HX0 := hid X0
    obtain ⟨i0, i1, i2, i3, i4, i5⟩ := K W (Below.refl _ _)
    clear Y0 Y1 Y2 X0 hW
    have XN1 := hid (HN1.out.call HX0.out); have XD1 := hid (HD1.out.call HX0.out); have XN2 := hid (HN2.out.call HX0.out); have XD2 := hid (HD2.out.call HX0.out)
    go_region_held3 (fun w' => w'.cell? ⟨w.heap.size, 0, none⟩ = some (.bool m) ∧ w'.cell? ⟨w.heap.size, 1, none⟩ = some (.slice a1 k1 c1) ∧ w'.cell? ⟨w.heap.size, 2, none⟩ = some (.slice a2 k2 c2) ∧ w'.cell? ⟨w.heap.size + 1, 0, none⟩ = some (.bool m2) ∧ w'.cell? ⟨w.heap.size + 1, 1, none⟩ = some (.slice a3 k3 c3) ∧ w'.cell? ⟨w.heap.size + 1, 2, none⟩ = some (.slice a4 k4 c4))
      (first
        | exact K.out _ (Below.refl _ _).drew
        | exact K.out _ bb2.out
        | exact K.out _ bb1.out)
      (first
        | (go_at_call_of 71 (Value.slice a1 k1 c1); refine (r1_Times _ _ _ n1 d2 (XN1.out.call (by first | exact bb2.out | exact (Below.refl _ _).drew)) (XD2.out.call (by first | exact bb2.out | exact (Below.refl _ _).drew)) H1.out H4.out).mono ?_; rintro e w1 ⟨⟨v1, rfl, hv1⟩, hb1⟩; have bb1 := hid (bnext (by first | exact bb2.out | exact (Below.refl _ _).drew) hb1))
        | (go_at_call_of 71 (Value.slice a3 k3 c3); refine (r1_Times _ _ _ n2 d1 (XN2.out.call (by first | exact bb1.out | exact (Below.refl _ _).drew)) (XD1.out.call (by first | exact bb1.out | exact (Below.refl _ _).drew)) H3.out H2.out).mono ?_; rintro e w2 ⟨⟨v2, rfl, hv2⟩, hb2⟩; have bb2 := hid (bnext (by first | exact bb1.out | exact (Below.refl _ _).drew) hb2)))
    have V2 := hid hv2; have V1 := hid (hv1.call hb2)
    rw [HX.out] at V1
    rw [HY.out] at V2
    clear hv1 hv2 hb1 hb2 i0 i1 i2 i3 i4 i5
    obtain ⟨i0, i1, i2, i3, i4, i5⟩ := K.out _ bb2.out
    go_wp2_with fail
    refine (r1_Times _ _ _ d1 d2 (XD1.out.call bb2.out) (XD2.out.call bb2.out) H2.out H4.out).mono ?_; rintro e w3 ⟨⟨v3, rfl, hv3⟩, hb3⟩
    have bb3 := hid (bnext bb2.out hb3)
    rw [HZ.out] at hv3
    have V3 := hid hv3
    have V1' := hid (V1.out.call hb3); have V2' := hid (V2.out.call hb3)
    clear hv3 hb3 i0 i1 i2 i3 i4 i5 V1 V2
    obtain ⟨i0, i1, i2, i3, i4, i5⟩ := K.out _ bb3.out
    obtain ⟨ja1, jc1, rfl, _⟩ := V1'.out.openI
    obtain ⟨ja2, jc2, rfl, _⟩ := V2'.out.openI
    obtain ⟨ja3, jc3, rfl, _⟩ := V3.out.openI
    obtain ⟨jk1, hj1⟩ : ∃ k, (limbs x).length = k := ⟨_, rfl⟩
    obtain ⟨jk2, hj2⟩ : ∃ k, (limbs y).length = k := ⟨_, rfl⟩
    obtain ⟨jk3, hj3⟩ : ∃ k, (limbs z).length = k := ⟨_, rfl⟩
    rw [hj1] at V1' ⊢
    rw [hj2] at V2' ⊢
    rw [hj3] at V3 ⊢
    clear hj1 hj2 hj3
    go_wp2_with fail
    refine (r1_Order _ _ _ x y V1'.out V2'.out).mono ?_; rintro e w4 ⟨rfl, hb4⟩
    have bb4 := hid (bnext bb3.out hb4)
    have W1 := hid (V1'.out.call hb4); have W2 := hid (V2'.out.call hb4); have W3 := hid (V3.out.call hb4)
    clear hb4 i0 i1 i2 i3 i4 i5
    obtain ⟨i0, i1, i2, i3, i4, i5⟩ := K.out _ bb4.out
    obtain ⟨t, ht⟩ : ∃ t, ordN x y = t := ⟨_, rfl⟩
    have q7 : decide (t < 0) = false := by rw [← ht]; exact ord_ge HLE.out
    rw [ht]
    clear ht
    go_wp2_with fail
    have K2 : Hid (∀ w1 x y z, Below W.heap.size W w1 → ∀ w', ((w1.setCell ⟨w.heap.size + 1 + 1, 0, none⟩ x).setCell ⟨w.heap.size + 1 + 1, 1, none⟩ y).setCell ⟨w.heap.size + 1 + 1, 2, none⟩ z = w' → w'.cell? ⟨w.heap.size, 0, none⟩ = some (.bool m) ∧ w'.cell? ⟨w.heap.size, 1, none⟩ = some (.slice a1 k1 c1) ∧ w'.cell? ⟨w.heap.size, 2, none⟩ = some (.slice a2 k2 c2) ∧ w'.cell? ⟨w.heap.size + 1, 0, none⟩ = some (.bool m2) ∧ w'.cell? ⟨w.heap.size + 1, 1, none⟩ = some (.slice a3 k3 c3) ∧ w'.cell? ⟨w.heap.size + 1, 2, none⟩ = some (.slice a4 k4 c4)) := by
      rintro w1 x y z hb _ rfl
      have Z0 := (((HY0.out.call hb).other (a := ⟨w.heap.size + 1 + 1, 0, none⟩) (by simp; omega) x).other (a := ⟨w.heap.size + 1 + 1, 1, none⟩) (by simp; omega) y).other (a := ⟨w.heap.size + 1 + 1, 2, none⟩) (by simp; omega) z
      have Z1 := (((HY1.out.call hb).other (a := ⟨w.heap.size + 1 + 1, 0, none⟩) (by simp) x).other (a := ⟨w.heap.size + 1 + 1, 1, none⟩) (by simp) y).other (a := ⟨w.heap.size + 1 + 1, 2, none⟩) (by simp) z
      exact ⟨Z0.cell 0, Z0.cell 1, Z0.cell 2, Z1.cell 0, Z1.cell 1, Z1.cell 2⟩
    go_region_held3 (fun w' => w'.cell? ⟨w.heap.size, 0, none⟩ = some (.bool m) ∧ w'.cell? ⟨w.heap.size, 1, none⟩ = some (.slice a1 k1 c1) ∧ w'.cell? ⟨w.heap.size, 2, none⟩ = some (.slice a2 k2 c2) ∧ w'.cell? ⟨w.heap.size + 1, 0, none⟩ = some (.bool m2) ∧ w'.cell? ⟨w.heap.size + 1, 1, none⟩ = some (.slice a3 k3 c3) ∧ w'.cell? ⟨w.heap.size + 1, 2, none⟩ = some (.slice a4 k4 c4))
      (first
        | exact K.out _ (by first | exact bb4.out.drew | exact below_drewN bb4.out _)
        | exact K2.out _ _ _ _ bb6.out _ rfl
        | exact K.out _ bb6.out
        | exact K.out _ bb5.out)
      (first
        | (go_at_call 86; refine (r1_Minus _ _ _ x y (W1.out.call (by first | exact (Below.refl _ _).drew | exact below_drewN (Below.refl _ _) _ | exact Below.refl _ _)) (W2.out.call (by first | exact (Below.refl _ _).drew | exact below_drewN (Below.refl _ _) _ | exact Below.refl _ _)) HLE.out L1.out).mono ?_; rintro e w5 ⟨⟨v5, rfl, hv5⟩, hb5⟩; have bb5 := hid (bnext (by first | exact bb4.out.drew | exact below_drewN bb4.out _ | exact bb4.out) hb5); have V5 := hid hv5; have Z5 := hid ((W3.out.call (Below.refl _ _).drew).call hb5))
        | (go_at_call 56; refine (r2_Reduce _ _ _ _ (x - y) z V5.out Z5.out hD.out LS.out L3.out).mono ?_; rintro e w6 ⟨⟨v6, rfl, hv6⟩, hb6⟩; obtain ⟨N6, D6, rfl, hN6, hD6⟩ := hv6.ex; have bb6 := hid (bnext bb5.out hb6); obtain ⟨a5, c5, rfl, _⟩ := hN6.openI; obtain ⟨a6, c6, rfl, _⟩ := hD6.openI; have HN6 := hid hN6; have HD6 := hid hD6; have Z := hid (HY2.out.call bb6.out); have t0 := Z.out.cell 0; have t1 := Z.out.cell 1; have t2 := Z.out.cell 2; have t3 := Z.out.free 0; have t4 := Z.out.free 1; have t5 := Z.out.free 2; clear hv6 hN6 hD6))
    go_wp2_with fail
    obtain ⟨s1, s2⟩ := set3 Z.out (decide ((qmk m (x - y) z).num < 0)) a5 a6 (limbs (qmk m (x - y) z).num.natAbs).length c5 (limbs (qmk m (x - y) z).den).length c6
    have f0 := s2.cell 0
    have f1 := s2.cell 1
    have f2 := s2.cell 2
    simp at f0 f1 f2
    refine bodyPost_ret (v := .agg #[.bool (decide ((qmk m (x - y) z).num < 0)), .slice a5 (limbs (qmk m (x - y) z).num.natAbs).length c5, .slice a6 (limbs (qmk m (x - y) z).den).length c6]) (by simp [results, Tryz.results51, go_sem, f0, f1, f2]) rfl ⟨⟨_, rfl, ⟨_, _, rfl, s1 _ _ _ HN6.out, s1 _ _ _ HD6.out⟩⟩, ?_⟩
    exact (((HX0.out.trans (bb6.out.mono (Nat.le_trans (Nat.le_refl _) HX0.out.size))).setCell (by simp; omega) _).setCell (by simp; omega) _).setCell (by simp; omega) _
theorem r2_Plus (w : World) (v u : Value) (p q : Rat) (hp : IsQ .i64 w v p) (hq : IsQ .i64 w u q)
    (h1 : (limbs p.num.natAbs).length ≤ 100000) (h2 : (limbs p.den).length ≤ 100000) (h3 : (limbs q.num.natAbs).length ≤ 100000) (h4 : (limbs q.den).length ≤ 100000) :
    Calls Tryz.prog 51 #[v, u] w fun e w' => RetQ .i64 (p + q) e w' ∧ Below w.heap.size w w' := by
  obtain ⟨N1, D1, rfl, hn1, hd1⟩ := hp.ex
  obtain ⟨N2, D2, rfl, hn2, hd2⟩ := hq.ex
  have he := q_add p q
  have hw := fun m s key => r2_Plus_walk w (decide (p.num < 0)) (decide (q.num < 0)) m N1 D1 N2 D2 _ _ _ _ s hn1 hd1 hn2 hd2 h1 h2 h3 h4 p.den_pos q.den_pos key
  rw [he]
  generalize decide (p.num < 0) = m1 at *
  generalize decide (q.num < 0) = m2 at *
  by_cases hm : m1 = m2
  · subst hm
    rw [sgn_same]
    exact hw m1 _ (.inl ⟨rfl, rfl, rfl⟩)
  · have hm' : (m1 == m2) = false := by simpa using hm
    rcases Nat.lt_or_ge (p.num.natAbs * q.den) (q.num.natAbs * p.den) with hl | hl
    · rw [sgn_less hm hl]
      exact hw m2 _ (.inr (.inl ⟨hm', hl, rfl, rfl⟩))
    · rw [sgn_more hm hl]
      exact hw m1 _ (.inr (.inr ⟨hm', hl, rfl, rfl⟩))
end Go.Proofs.YtpehhgkghgbhiaaGreatDoor
namespace Go.Proofs.YtpehhgkghgbhiaaGreatDoor
open Go.RowKit
set_option linter.unusedVariables false
set_option maxHeartbeats 2000000 in
theorem r2_Times (w : World) (v u : Value) (p q : Rat) (hp : IsQ .i64 w v p) (hq : IsQ .i64 w u q)
    (h1 : (limbs p.num.natAbs).length ≤ 100000) (h2 : (limbs p.den).length ≤ 100000) (h3 : (limbs q.num.natAbs).length ≤ 100000) (h4 : (limbs q.den).length ≤ 100000) :
    Calls Tryz.prog 49 #[v, u] w fun e w' => RetQ .i64 (p * q) e w' ∧ Below w.heap.size w w' := by
  have HQ := hid (qmk_mul p q)
  rw [← HQ.out]
  have hD := hid (Nat.mul_pos p.den_pos q.den_pos)
  obtain ⟨N1, D1, rfl, hn1, hd1⟩ := hp.ex
  obtain ⟨N2, D2, rfl, hn2, hd2⟩ := hq.ex
  clear hp hq HQ
  generalize decide (p.num < 0) = m1 at *
  generalize decide (q.num < 0) = m2 at *
  generalize p.num.natAbs = n1 at *
  generalize q.num.natAbs = n2 at *
  generalize p.den = d1 at *
  generalize q.den = d2 at *
  have HN1 := hid hn1; have HD1 := hid hd1; have HN2 := hid hn2; have HD2 := hid hd2
  have L1 := hid (Nat.le_trans (limbs_mul h1 h3) (show 100000 + 100000 ≤ 1000000 by omega))
  have L2 := hid (Nat.le_trans (limbs_mul h2 h4) (show 100000 + 100000 ≤ 1000000 by omega))
  have H1 := hid (Nat.le_trans h1 (show 100000 ≤ 1000000 by omega))
  have H2 := hid (Nat.le_trans h2 (show 100000 ≤ 1000000 by omega))
  have H3 := hid (Nat.le_trans h3 (show 100000 ≤ 1000000 by omega))
  have H4 := hid (Nat.le_trans h4 (show 100000 ≤ 1000000 by omega))
  clear h1 h2 h3 h4
  obtain ⟨a1, c1, rfl, _⟩ := hn1.openI
  obtain ⟨a2, c2, rfl, _⟩ := hd1.openI
  obtain ⟨a3, c3, rfl, _⟩ := hn2.openI
  obtain ⟨a4, c4, rfl, _⟩ := hd2.openI
  clear hn1 hd1 hn2 hd2
  go_enter Tryz.func49, Tryz.ntmps49
  go_wp2_with fail
  obtain ⟨W, hW⟩ : ∃ W, ((w.alloc (.cells #[.bool m1, .slice a1 (limbs n1).length c1, .slice a2 (limbs d1).length c2] 66)).alloc (.cells #[.bool m2, .slice a3 (limbs n2).length c3, .slice a4 (limbs d2).length c4] 66)).alloc (.cells #[.bool false, .slice none 0 0, .slice none 0 0] 66) = W := ⟨_, rfl⟩
  rw [hW]
  have X0 : Below w.heap.size w W := by rw [← hW]; exact (((Below.refl _ _).alloc (Nat.le_refl _) _).alloc (by simp) _).alloc (by simp; omega) _
  have Y0 : Blk W w.heap.size #[.bool m1, .slice a1 (limbs n1).length c1, .slice a2 (limbs d1).length c2] 66 := by rw [← hW]; exact ((Blk.new w _ _).alloc _).alloc _
  have Y1 : Blk W (w.heap.size + 1) #[.bool m2, .slice a3 (limbs n2).length c3, .slice a4 (limbs d2).length c4] 66 := by rw [← hW]; exact (Blk.made (w.alloc _) _ _ (by simp)).alloc _
  have Y2 : Blk W (w.heap.size + 1 + 1) #[.bool false, .slice none 0 0, .slice none 0 0] 66 := by rw [← hW]; exact Blk.made ((w.alloc _).alloc _) _ _ (by simp)
  have K0 : ∀ w', Blk w' w.heap.size #[.bool m1, .slice a1 (limbs n1).length c1, .slice a2 (limbs d1).length c2] 66 → Blk w' (w.heap.size + 1) #[.bool m2, .slice a3 (limbs n2).length c3, .slice a4 (limbs d2).length c4] 66 →
      w'.cell? ⟨w.heap.size, 0, none⟩ = some (.bool m1) ∧ w'.cell? ⟨w.heap.size, 1, none⟩ = some (.slice a1 (limbs n1).length c1) ∧ w'.cell? ⟨w.heap.size, 2, none⟩ = some (.slice a2 (limbs d1).length c2) ∧
      w'.cell? ⟨w.heap.size + 1, 0, none⟩ = some (.bool m2) ∧ w'.cell? ⟨w.heap.size + 1, 1, none⟩ = some (.slice a3 (limbs n2).length c3) ∧ w'.cell? ⟨w.heap.size + 1, 2, none⟩ = some (.slice a4 (limbs d2).length c4) :=
    fun w' y0 y1 => ⟨y0.cell 0, y0.cell 1, y0.cell 2, y1.cell 0, y1.cell 1, y1.cell 2⟩
  have K : Hid (∀ w', Below W.heap.size W w' → w'.cell? ⟨w.heap.size, 0, none⟩ = some (.bool m1) ∧ w'.cell? ⟨w.heap.size, 1, none⟩ = some (.slice a1 (limbs n1).length c1) ∧ w'.cell? ⟨w.heap.size, 2, none⟩ = some (.slice a2 (limbs d1).length c2) ∧
      w'.cell? ⟨w.heap.size + 1, 0, none⟩ = some (.bool m2) ∧ w'.cell? ⟨w.heap.size + 1, 1, none⟩ = some (.slice a3 (limbs n2).length c3) ∧ w'.cell? ⟨w.heap.size + 1, 2, none⟩ = some (.slice a4 (limbs d2).length c4)) := fun w' hb => K0 w' (Y0.call hb) (Y1.call hb)
  have K2 : Hid (∀ w1 x y z, Below W.heap.size W w1 → ∀ w', ((w1.setCell ⟨w.heap.size + 1 + 1, 0, none⟩ x).setCell ⟨w.heap.size + 1 + 1, 1, none⟩ y).setCell ⟨w.heap.size + 1 + 1, 2, none⟩ z = w' → w'.cell? ⟨w.heap.size, 0, none⟩ = some (.bool m1) ∧ w'.cell? ⟨w.heap.size, 1, none⟩ = some (.slice a1 (limbs n1).length c1) ∧ w'.cell? ⟨w.heap.size, 2, none⟩ = some (.slice a2 (limbs d1).length c2) ∧
      w'.cell? ⟨w.heap.size + 1, 0, none⟩ = some (.bool m2) ∧ w'.cell? ⟨w.heap.size + 1, 1, none⟩ = some (.slice a3 (limbs n2).length c3) ∧ w'.cell? ⟨w.heap.size + 1, 2, none⟩ = some (.slice a4 (limbs d2).length c4)) := by
    rintro w1 x y z hb _ rfl
    exact K0 _ ((((Y0.call hb).other (by simp; omega) _).other (by simp; omega) _).other (by simp; omega) _) ((((Y1.call hb).other (by simp) _).other (by simp) _).other (by simp) _)
  have HY2 := hid Y2; have HX0 := hid X0
  obtain ⟨k0, k1, k2, k3, k4, k5⟩ := K W (Below.refl _ _)
  clear K0
  clear Y0 Y1 Y2 X0 hW
  have XN1 := hid (HN1.out.call HX0.out); have XD1 := hid (HD1.out.call HX0.out); have XN2 := hid (HN2.out.call HX0.out); have XD2 := hid (HD2.out.call HX0.out)
  go_region_held3 (fun w' => w'.cell? ⟨w.heap.size, 0, none⟩ = some (.bool m1) ∧ w'.cell? ⟨w.heap.size, 1, none⟩ = some (.slice a1 (limbs n1).length c1) ∧ w'.cell? ⟨w.heap.size, 2, none⟩ = some (.slice a2 (limbs d1).length c2) ∧
      w'.cell? ⟨w.heap.size + 1, 0, none⟩ = some (.bool m2) ∧ w'.cell? ⟨w.heap.size + 1, 1, none⟩ = some (.slice a3 (limbs n2).length c3) ∧ w'.cell? ⟨w.heap.size + 1, 2, none⟩ = some (.slice a4 (limbs d2).length c4))
    (first
      | exact K.out _ (Below.refl _ _).drew
      | exact K2.out _ _ _ _ B3.out _ rfl
      | exact K.out _ B3.out
      | exact K.out _ B2.out
      | exact K.out _ B1.out)
    (first
      | (go_at_call_of 71 (Value.slice a1 (limbs n1).length c1); refine (r1_Times _ _ _ n1 n2 (XN1.out.call (by first | exact B2.out | exact (Below.refl _ _).drew)) (XN2.out.call (by first | exact B2.out | exact (Below.refl _ _).drew)) H1.out H3.out).mono ?_; rintro e w1 ⟨⟨v1, rfl, hv1⟩, hb1⟩; have B1 := hid (bnext (by first | exact B2.out | exact (Below.refl _ _).drew) hb1))
      | (go_at_call_of 71 (Value.slice a2 (limbs d1).length c2); refine (r1_Times _ _ _ d1 d2 (XD1.out.call (by first | exact B1.out | exact (Below.refl _ _).drew)) (XD2.out.call (by first | exact B1.out | exact (Below.refl _ _).drew)) H2.out H4.out).mono ?_; rintro e w2 ⟨⟨v2, rfl, hv2⟩, hb2⟩; have B2 := hid (bnext (by first | exact B1.out | exact (Below.refl _ _).drew) hb2))
      | (go_at_call 56; refine (r2_Reduce _ _ _ _ (n1 * n2) (d1 * d2) (by first | exact hv1 | exact hv1.call hb2) (by first | exact hv2 | exact hv2.call hb1) hD.out L1.out L2.out).mono ?_; rintro e w3 ⟨⟨v3, rfl, hv3⟩, hb3⟩; obtain ⟨N3, D3, rfl, hN3, hD3⟩ := hv3.ex; have B3 := hid (bnext (by first | exact B2.out | exact B1.out) hb3); obtain ⟨a5, c5, rfl, _⟩ := hN3.openI; obtain ⟨a6, c6, rfl, _⟩ := hD3.openI; have HN3 := hid hN3; have HD3 := hid hD3; have Z := hid (HY2.out.call B3.out); have t0 := Z.out.cell 0; have t1 := Z.out.cell 1; have t2 := Z.out.cell 2; have t3 := Z.out.free 0; have t4 := Z.out.free 1; have t5 := Z.out.free 2; clear hv3 hN3 hD3))
  have hbn : (!(m1 == m2)) = (m1 != m2) := rfl
  rw [hbn] at *
  go_wp2_with fail
  obtain ⟨s1, s2⟩ := set3 Z.out (decide ((qmk (m1 != m2) (n1 * n2) (d1 * d2)).num < 0)) a5 a6 (limbs (qmk (m1 != m2) (n1 * n2) (d1 * d2)).num.natAbs).length c5 (limbs (qmk (m1 != m2) (n1 * n2) (d1 * d2)).den).length c6
  have f0 := s2.cell 0
  have f1 := s2.cell 1
  have f2 := s2.cell 2
  simp at f0 f1 f2
  refine bodyPost_ret (v := .agg #[.bool (decide ((qmk (m1 != m2) (n1 * n2) (d1 * d2)).num < 0)), .slice a5 (limbs (qmk (m1 != m2) (n1 * n2) (d1 * d2)).num.natAbs).length c5, .slice a6 (limbs (qmk (m1 != m2) (n1 * n2) (d1 * d2)).den).length c6]) (by simp [results, Tryz.results49, go_sem, f0, f1, f2]) rfl ⟨⟨_, rfl, ⟨_, _, rfl, s1 _ _ _ HN3.out, s1 _ _ _ HD3.out⟩⟩, ?_⟩
  exact (((HX0.out.trans (B3.out.mono (Nat.le_trans (Nat.le_refl _) HX0.out.size))).setCell (by simp; omega) _).setCell (by simp; omega) _).setCell (by simp; omega) _
end Go.Proofs.YtpehhgkghgbhiaaGreatDoor
namespace Go.Proofs.YtpehhgkghgbhiaaGreatDoor
open Go.RowKit
open Go.Lib (decDigits nDigits)
set_option linter.unusedVariables false
/-- A rational number of few digits. -/
structure Dig (K : Nat) (q : Rat) : Prop where
  n : q.num.natAbs < 10 ^ K
  d : q.den < 10 ^ K
theorem Dig.up {K L : Nat} {q : Rat} (h : Dig K q) (hl : K ≤ L) : Dig L q := ⟨fit_up h.n hl, fit_up h.d hl⟩
theorem Dig.fits {K : Nat} {q : Rat} (h : Dig K q) (h0 : 0 < K) (hk : K ≤ 4000) : ¬ ovQ q := by
  unfold ovQ
  have h1 := nDigits_le h0 h.n
  have h2 := nDigits_le h0 h.d
  omega
theorem dig_mk {K : Nat} {z : Int} {d : Nat} (hd : 0 < d) (h1 : z.natAbs < 10 ^ K) (h2 : d < 10 ^ K) : Dig K (mkRat z d) := by
  refine ⟨?_, ?_⟩
  · rw [Rat.num_mkRat, if_neg (by omega)]
    exact Nat.lt_of_le_of_lt (Int.natAbs_ediv_le_natAbs _ _) h1
  · rw [Rat.den_mkRat, if_neg (by omega)]
    exact Nat.lt_of_le_of_lt (Nat.div_le_self _ _) h2
theorem dig_mul {K L : Nat} {p q : Rat} (hp : Dig K p) (hq : Dig L q) : Dig (K + L) (p * q) := by
  rw [← qmk_mul]
  unfold qmk
  exact dig_mk (Nat.mul_pos p.den_pos q.den_pos) (by rw [sgn_natAbs]; exact fit_mul hp.n hq.n) (fit_mul hp.d hq.d)
theorem dig_neg {K : Nat} {q : Rat} (h : Dig K q) : Dig K (-q) := ⟨by rw [Rat.neg_num, Int.natAbs_neg]; exact h.n, by rw [Rat.neg_den]; exact h.d⟩
/-- The text "1". -/
def t1 : ByteArray := ⟨#[49]⟩
theorem outB_fits {q : Rat} (h : ¬ ovQ q) : outB q = txQ q := if_neg h
theorem outE_fits {q : Rat} (h : ¬ ovQ q) : outE q = 0 := if_neg h
end Go.Proofs.YtpehhgkghgbhiaaGreatDoor
namespace Go.Proofs.YtpehhgkghgbhiaaGreatDoor
open Go.RowKit
open Go.Lib (decDigits nDigits)
set_option linter.unusedVariables false
set_option linter.unusedSimpArgs false
/-- The shape of a struct that holds a rational number, or nothing. -/
def Qv (v : Value) : Prop := ∃ (m : Bool) (a : Option Addr) (n c : Nat) (a' : Option Addr) (n' c' : Nat), v = .agg #[.bool m, .slice a n c, .slice a' n' c']
theorem IsQ.qv {k : IntKind} {w : World} {v : Value} {q : Rat} (h : IsQ k w v q) : Qv v := by
  obtain ⟨N, D, rfl, h1, h2⟩ := h.ex
  obtain ⟨a1, c1, rfl, _⟩ := h1.openI
  obtain ⟨a2, c2, rfl, _⟩ := h2.openI
  exact ⟨_, _, _, _, _, _, _, rfl⟩
theorem RetQE.open {s : ByteArray} {e : Ending} {w' : World} (h : RetQE s e w') : ∃ (m : Bool) (a : Option Addr) (n c : Nat) (a' : Option Addr) (n' c' : Nat), e = .returned (.tuple #[.agg #[.bool m, .slice a n c, .slice a' n' c'], .int .i64 (qE s)]) ∧ (qE s = 0 → IsQ .i64 w' (.agg #[.bool m, .slice a n c, .slice a' n' c']) (vQ s)) ∧ (qE s ≠ 0 → m = false ∧ a = none ∧ n = 0 ∧ c = 0 ∧ a' = none ∧ n' = 0 ∧ c' = 0) := by
  obtain ⟨v, rfl, h1, h2⟩ := h
  by_cases h0 : qE s = 0
  · obtain ⟨m, a, n, c, a', n', c', rfl⟩ := (h1 h0).qv
    exact ⟨m, a, n, c, a', n', c', rfl, h1, fun h => absurd h0 h⟩
  · obtain rfl := h2 h0
    exact ⟨_, _, _, _, _, _, _, rfl, h1, fun _ => ⟨rfl, rfl, rfl, rfl, rfl, rfl, rfl⟩⟩
theorem IsQ.keep {k : IntKind} {w w' : World} {v : Value} {q : Rat} (h : IsQ k w v q) (f : ∀ k v x, IsN k w v x → IsN k w' v x) : IsQ k w' v q := by
  obtain ⟨N, D, rfl, h1, h2⟩ := h.ex
  exact ⟨N, D, rfl, f _ _ _ h1, f _ _ _ h2⟩
theorem IsN.drew {k : IntKind} {w : World} {v : Value} {n : Nat} (h : IsN k w v n) : IsN k w.drew v n := Row.drew h
/-- What two gives back. -/
def RetTwo (s t : ByteArray) (e : Ending) (w' : World) : Prop := ∃ (m : Bool) (a : Option Addr) (n c : Nat) (a' : Option Addr) (n' c' : Nat) (m2 : Bool) (b : Option Addr) (j d : Nat) (b' : Option Addr) (j' d' : Nat),
  e = .returned (.tuple #[.agg #[.bool m, .slice a n c, .slice a' n' c'], .agg #[.bool m2, .slice b j d, .slice b' j' d'], .int .i64 (if qE s = 0 then qE t else qE s)]) ∧
  (qE s = 0 → qE t = 0 → IsQ .i64 w' (.agg #[.bool m, .slice a n c, .slice a' n' c']) (vQ s) ∧ IsQ .i64 w' (.agg #[.bool m2, .slice b j d, .slice b' j' d']) (vQ t))
set_option maxRecDepth 100000 in
set_option maxHeartbeats 1000000 in
theorem r2_two (w : World) (s t : ByteArray) (hs : s.size ≤ 1000000) (ht : t.size ≤ 1000000) :
    Calls Tryz.prog 48 #[.string s, .string t] w fun e w' => RetTwo s t e w' ∧ Below w.heap.size w w' := by
  have R1 := fun V => hid (r2_Read V s hs)
  have R2 := fun V => hid (r2_Read V t ht)
  have t0 := hid (Blk.new w #[.bool false, .slice none 0 0, .slice none 0 0] 66)
  have t1 := hid ((Below.refl w.heap.size w).alloc (Nat.le_refl _) (.cells #[.bool false, .slice none 0 0, .slice none 0 0] 66))
  have u0 := hid ((Blk.new w #[.bool false, .slice none 0 0, .slice none 0 0] 66).alloc (.cells #[.bool false, .slice none 0 0, .slice none 0 0] 66))
  have u1 := hid (Blk.made (w.alloc (.cells #[.bool false, .slice none 0 0, .slice none 0 0] 66)) #[.bool false, .slice none 0 0, .slice none 0 0] 66 (n := w.heap.size + 1) (by simp))
  have u2 := hid (t1.out.alloc (by simp) (.cells #[.bool false, .slice none 0 0, .slice none 0 0] 66))
  clear hs ht t0 t1
  go_enter Tryz.func48, Tryz.ntmps48
  go_wp2_with fail
  refine (R1 _).out.mono ?_; rintro e w1 ⟨hr1, hb1⟩
  obtain ⟨m, a, n, c, a', n', c', rfl, h1, h2⟩ := hr1.open
  have v0 := hid (u0.out.call hb1); have v1 := hid (u1.out.call hb1); have v2 := hid (bnext u2.out hb1)
  have l1 := v1.out.lt
  have n1 : (w1.heap.size = w.heap.size) = False := by simp; omega
  have n2 : (w.heap.size = w1.heap.size) = False := by simp; omega
  have n3 : (w1.heap.size = w.heap.size + 1) = False := by simp; omega
  have n4 : (w.heap.size + 1 = w1.heap.size) = False := by simp; omega
  obtain ⟨x, hx⟩ : ∃ x, qE s = x := ⟨_, rfl⟩
  have HXX := hid hx
  by_cases h0 : x = 0
  · subst h0
    rw [hx]
    have Q1 := hid (h1 hx)
    clear h1 h2 hr1 hb1 R1 hx
    have X7 := hid (Blk.new w1 #[.bool m, .slice a n c, .slice a' n' c'] 66)
    have b7 := hid ((Below.refl w1.heap.size w1).alloc (Nat.le_refl _) (.cells #[.bool m, .slice a n c, .slice a' n' c'] 66))
    have x0 := hid (v0.out.call b7.out); have x1 := hid (v1.out.call b7.out); have x2 := hid (bnext v2.out b7.out); have Q2 := hid (Q1.out.call b7.out)
    clear v0 v1 v2 Q1 b7
    go_wp2_with fail
    refine (R2 _).out.mono ?_; rintro e w2 ⟨hr2, hb2⟩
    obtain ⟨m2, b, j, d, b', j', d', rfl, k1, k2⟩ := hr2.open
    have y0 := hid (x0.out.call hb2); have y1 := hid (x1.out.call hb2); have y2 := hid (bnext x2.out hb2); have y7 := hid (X7.out.call hb2); have Q3 := hid (Q2.out.call hb2)
    have K1 := hid k1
    clear x0 x1 x2 X7 Q2 hb2 hr2 k1 k2 R2
    have l2 := y7.out.lt
    have n5 : (w2.heap.size = w.heap.size) = False := by simp; omega
    have n6 : (w.heap.size = w2.heap.size) = False := by simp; omega
    have n7 : (w2.heap.size = w.heap.size + 1) = False := by simp; omega
    have n8 : (w.heap.size + 1 = w2.heap.size) = False := by simp; omega
    clear l1 l2
    obtain ⟨z, hz⟩ : ∃ z, qE t = z := ⟨_, rfl⟩
    have HZ := hid hz
    rw [hz]
    clear hz
    have X9 := hid (Blk.new w2 #[.bool m2, .slice b j d, .slice b' j' d'] 66)
    have b9 := hid ((Below.refl w2.heap.size w2).alloc (Nat.le_refl _) (.cells #[.bool m2, .slice b j d, .slice b' j' d'] 66))
    have z0 := hid (y0.out.call b9.out); have z1 := hid (y1.out.call b9.out); have z2 := hid (bnext y2.out b9.out); have z7 := hid (y7.out.call b9.out); have Q4 := hid (Q3.out.call b9.out)
    have K2 := fun h => hid ((K1.out h).call b9.out)
    clear y0 y1 y2 y7 Q3 b9 K1
    have HH1 := z0.out.cell 0
    have HH2 := z0.out.cell 1
    have HH3 := z0.out.cell 2
    have HH4 := z0.out.free 0
    have HH5 := z0.out.free 1
    have HH6 := z0.out.free 2
    have KK1 := z1.out.cell 0
    have KK2 := z1.out.cell 1
    have KK3 := z1.out.cell 2
    have KK4 := z1.out.free 0
    have KK5 := z1.out.free 1
    have KK6 := z1.out.free 2
    have JJ1 := z7.out.cell 0
    have JJ2 := z7.out.cell 1
    have JJ3 := z7.out.cell 2
    simp at HH1 HH2 HH3 KK1 KK2 KK3 JJ1 JJ2 JJ3

    have II1 := X9.out.cell 0
    have II2 := X9.out.cell 1
    have II3 := X9.out.cell 2
    simp at II1 II2 II3
    go_wp2_with fail
    go_region
    obtain ⟨p1, p2⟩ := set3 z0.out m a a' n c n' c'
    have r1 := ((z1.out.other (a := ⟨w.heap.size, 0, none⟩) (by simp) (.bool m)).other (a := ⟨w.heap.size, 1, none⟩) (by simp) (.slice a n c)).other (a := ⟨w.heap.size, 2, none⟩) (by simp) (.slice a' n' c')
    obtain ⟨p3, p4⟩ := set3 r1 m2 b b' j d j' d'
    have p5 := ((p2.other (a := ⟨w.heap.size + 1, 0, none⟩) (by simp) (.bool m2)).other (a := ⟨w.heap.size + 1, 1, none⟩) (by simp) (.slice b j d)).other (a := ⟨w.heap.size + 1, 2, none⟩) (by simp) (.slice b' j' d')
    have f0 := p5.drew.cell 0
    have f1 := p5.drew.cell 1
    have f2 := p5.drew.cell 2
    have g0 := p4.drew.cell 0
    have g1 := p4.drew.cell 1
    have g2 := p4.drew.cell 2
    simp at f0 f1 f2 g0 g1 g2
    go_wp2_with fail
    refine bodyPost_ret (v := .tuple #[.agg #[.bool m, .slice a n c, .slice a' n' c'], .agg #[.bool m2, .slice b j d, .slice b' j' d'], .int .i64 z]) (by simp [results, Tryz.results48, go_sem, f0, f1, f2, g0, g1, g2]) rfl ⟨⟨m, a, n, c, a', n', c', m2, b, j, d, b', j', d', by rw [if_pos HXX.out, HZ.out], fun h1 h2 => ⟨(Q4.out.keep fun k v x h => (p3 _ _ _ (p1 _ _ _ h)).drew), ((K2 h2).out.keep fun k v x h => (p3 _ _ _ (p1 _ _ _ h)).drew)⟩⟩, ?_⟩
    exact ((((((z2.out.setCell (Nat.le_refl _) _).setCell (Nat.le_refl _) _).setCell (Nat.le_refl _) _).setCell (Nat.le_succ _) _).setCell (Nat.le_succ _) _).setCell (Nat.le_succ _) _).drew
  · rw [hx]
    have q0 : (x != 0) = true := by simpa using h0
    obtain ⟨rfl, rfl, rfl, rfl, rfl, rfl, rfl⟩ := h2 (by rw [hx]; exact h0)
    have H0 := hid h0
    clear h1 h2 hr1 hb1 R1 R2 hx h0
    have X7 := hid (Blk.new w1 #[.bool false, .slice none 0 0, .slice none 0 0] 66)
    have b7 := hid ((Below.refl w1.heap.size w1).alloc (Nat.le_refl _) (.cells #[.bool false, .slice none 0 0, .slice none 0 0] 66))
    have x0 := hid (v0.out.call b7.out); have x1 := hid (v1.out.call b7.out); have x2 := hid (bnext v2.out b7.out)
    clear v0 v1 v2 b7
    have HH1 := x0.out.cell 0
    have HH2 := x0.out.cell 1
    have HH3 := x0.out.cell 2
    have HH4 := x0.out.free 0
    have HH5 := x0.out.free 1
    have HH6 := x0.out.free 2
    have KK1 := x1.out.cell 0
    have KK2 := x1.out.cell 1
    have KK3 := x1.out.cell 2
    have KK4 := x1.out.free 0
    have KK5 := x1.out.free 1
    have KK6 := x1.out.free 2
    have JJ1 := X7.out.cell 0
    have JJ2 := X7.out.cell 1
    have JJ3 := X7.out.cell 2
    simp at HH1 HH2 HH3 KK1 KK2 KK3 JJ1 JJ2 JJ3

    go_wp2_with fail
    go_region
    obtain ⟨p1, p2⟩ := set3 x0.out false none none 0 0 0 0
    have r1 := ((x1.out.other (a := ⟨w.heap.size, 0, none⟩) (by simp) (.bool false)).other (a := ⟨w.heap.size, 1, none⟩) (by simp) (.slice none 0 0)).other (a := ⟨w.heap.size, 2, none⟩) (by simp) (.slice none 0 0)
    obtain ⟨p3, p4⟩ := set3 r1 false none none 0 0 0 0
    have p5 := ((p2.other (a := ⟨w.heap.size + 1, 0, none⟩) (by simp) (.bool false)).other (a := ⟨w.heap.size + 1, 1, none⟩) (by simp) (.slice none 0 0)).other (a := ⟨w.heap.size + 1, 2, none⟩) (by simp) (.slice none 0 0)
    have f0 := p5.drew.cell 0
    have f1 := p5.drew.cell 1
    have f2 := p5.drew.cell 2
    have g0 := p4.drew.cell 0
    have g1 := p4.drew.cell 1
    have g2 := p4.drew.cell 2
    simp at f0 f1 f2 g0 g1 g2
    go_wp2_with fail
    refine bodyPost_ret (v := .tuple #[.agg #[.bool false, .slice none 0 0, .slice none 0 0], .agg #[.bool false, .slice none 0 0, .slice none 0 0], .int .i64 x]) (by simp [results, Tryz.results48, go_sem, f0, f1, f2, g0, g1, g2]) rfl ⟨⟨false, none, 0, 0, none, 0, 0, false, none, 0, 0, none, 0, 0, by rw [if_neg (by rw [HXX.out]; exact H0.out), HXX.out], fun h1 => absurd (HXX.out.symm.trans h1) H0.out⟩, ?_⟩
    exact ((((((x2.out.setCell (Nat.le_refl _) _).setCell (Nat.le_refl _) _).setCell (Nat.le_refl _) _).setCell (Nat.le_succ _) _).setCell (Nat.le_succ _) _).setCell (Nat.le_succ _) _).drew
theorem dig_of {q : Rat} {K : Nat} (h1 : nDigits q.num.natAbs ≤ K) (h2 : nDigits q.den ≤ K) : Dig K q :=
  ⟨Nat.lt_of_lt_of_le (Go.Lib.lt_pow_nDigits _) (Nat.pow_le_pow_right (by omega) h1), Nat.lt_of_lt_of_le (Go.Lib.lt_pow_nDigits _) (Nat.pow_le_pow_right (by omega) h2)⟩
theorem dig_of_fits {q : Rat} (h : ¬ ovQ q) : Dig 4000 q := by
  unfold ovQ at h
  exact dig_of (by omega) (by omega)
theorem Dig.limbs {K L : Nat} {q : Rat} (h : Dig K q) (h0 : 0 < K) (hl : K ≤ 9 * L) : (limbs q.num.natAbs).length ≤ L ∧ (limbs q.den).length ≤ L :=
  ⟨limbs_digits (Nat.le_trans (nDigits_le h0 h.n) hl), limbs_digits (Nat.le_trans (nDigits_le h0 h.d) hl)⟩
/-- A walk of two texts and an operation. -/
def OpOk (F : Nat) (f : Rat → Rat → Rat) : Prop := ∀ (w : World) (v u : Value) (p q : Rat), IsQ .i64 w v p → IsQ .i64 w u q → Dig 4000 p → Dig 4000 q →
  Calls Tryz.prog F #[v, u] w fun e w' => RetQ .i64 (f p q) e w' ∧ Below w.heap.size w w'
theorem op_plus : OpOk 51 (· + ·) := fun w v u p q hp hq h1 h2 => by
  have l1 := h1.limbs (L := 100000) (by omega) (by omega)
  have l2 := h2.limbs (L := 100000) (by omega) (by omega)
  exact r2_Plus w v u p q hp hq l1.1 l1.2 l2.1 l2.2
theorem op_times : OpOk 49 (· * ·) := fun w v u p q hp hq h1 h2 => by
  have l1 := h1.limbs (L := 100000) (by omega) (by omega)
  have l2 := h2.limbs (L := 100000) (by omega) (by omega)
  exact r2_Times w v u p q hp hq l1.1 l1.2 l2.1 l2.2
set_option maxRecDepth 100000 in
set_option maxHeartbeats 1000000 in
theorem r2_Mul (w : World) (s t : ByteArray) (hs : s.size ≤ 1000000) (ht : t.size ≤ 1000000) :
    Calls Tryz.prog 14 #[.string s, .string t] w fun e w' => e = .returned (.tuple #[.string (op2B (· * ·) s t), .int .i64 (op2E (· * ·) s t)]) ∧ Below w.heap.size w w' := by
  have R1 := fun V => hid (r2_two V s t hs ht)
  clear hs ht
  by_cases h0 : qE s = 0 ∧ qE t = 0
  · have eB : op2B (· * ·) s t = outB (vQ s * vQ t) := by rw [op2B, if_pos h0]
    have eE : op2E (· * ·) s t = outE (vQ s * vQ t) := by rw [op2E, if_pos h0.1, if_pos h0.2]
    rw [eB, eE]
    have ds := dig_of_fits (vQ_fits h0.1)
    have dt := dig_of_fits (vQ_fits h0.2)
    have dl := hid ((dig_mul ds dt).limbs (L := 1000000) (by omega) (by omega))
    have HO := fun V v u hp hq => hid (op_times V v u (vQ s) (vQ t) hp hq ds dt)
    have HW := fun V v h => hid (r2_Write V v (vQ s * vQ t) h dl.out.1 dl.out.2)
    obtain ⟨oB, hB⟩ : ∃ x, outB (vQ s * vQ t) = x := ⟨_, rfl⟩
    obtain ⟨oE, hE⟩ : ∃ x, outE (vQ s * vQ t) = x := ⟨_, rfl⟩
    rw [hB, hE] at HW
    rw [hB, hE]
    have H0 := hid h0
    clear eB eE ds dt dl hB hE h0
    go_enter Tryz.func14, Tryz.ntmps14
    go_wp2_with fail
    refine (R1 _).out.mono ?_; rintro e w1 ⟨⟨m, a, n, c, a', n', c', m2, b, j, d, b', j', d', rfl, hq⟩, hb1⟩
    obtain ⟨q1, q2⟩ := hq H0.out.1 H0.out.2
    rw [if_pos H0.out.1, H0.out.2]
    have b0 := ((Below.refl w1.heap.size w1).alloc (Nat.le_refl _) (.cells #[.bool m, .slice a n c, .slice a' n' c'] 66)).alloc (by simp) (.cells #[.bool m2, .slice b j d, .slice b' j' d'] 66)
    have y2 := hid (bnext hb1 b0)
    have H1 := HO _ _ _ (q1.call b0) (q2.call b0)
    clear hb1 q1 q2 hq b0 HO R1
    go_wp2_with fail
    refine H1.out.mono ?_; rintro e w2 ⟨⟨v, rfl, hv⟩, hb2⟩
    have y3 := hid (bnext y2.out hb2)
    have H2 := HW _ _ hv
    obtain ⟨m3, a3, n3, c3, a4, n4, c4, rfl⟩ := hv.qv
    clear hv hb2 HW H1
    go_wp2_with fail
    refine H2.out.mono ?_; rintro e w3 ⟨rfl, hb3⟩
    have y4 := hid (bnext y3.out hb3)
    clear hb3 H2
    go_wp2_with fail
    go_ret2
    exact ⟨rfl, y4.out⟩
  · have n0 : (if qE s = 0 then qE t else qE s) ≠ 0 := by
      split
      · rename_i h; exact fun e => h0 ⟨h, e⟩
      · rename_i h; exact h
    have eB : op2B (· * ·) s t = ⟨#[]⟩ := by rw [op2B, if_neg h0]
    have eE : op2E (· * ·) s t = if qE s = 0 then qE t else qE s := by
      rw [op2E]
      split
      · rename_i h; rw [if_neg (fun e => h0 ⟨h, e⟩)]
      · rfl
    rw [eB, eE]
    obtain ⟨x, hx⟩ : ∃ x, (if qE s = 0 then qE t else qE s) = x := ⟨_, rfl⟩
    rw [hx] at n0 ⊢
    have q0 : (x != 0) = true := by simpa using n0
    have HX := hid hx
    clear h0 n0 eB eE hx
    go_enter Tryz.func14, Tryz.ntmps14
    go_wp2_with fail
    refine (R1 _).out.mono ?_; rintro e w1 ⟨⟨m, a, n, c, a', n', c', m2, b, j, d, b', j', d', rfl, -⟩, hb1⟩
    rw [HX.out]
    have y1 := hid hb1
    have y2 := hid ((hb1.alloc hb1.size (.cells #[.bool m, .slice a n c, .slice a' n' c'] 66)).alloc (Nat.le_trans hb1.size (by simp)) (.cells #[.bool m2, .slice b j d, .slice b' j' d'] 66))
    clear hb1
    go_wp2_with fail
    go_ret2
    exact ⟨rfl, y2.out⟩
end Go.Proofs.YtpehhgkghgbhiaaGreatDoor
namespace Go.Proofs.YtpehhgkghgbhiaaGreatDoor
open Go.RowKit
open Go.Lib (decDigits nDigits)
set_option linter.unusedVariables false
theorem conv_d0 (w : World) : (convert 21 9 (.int .i32 48)).run Tryz.prog w = .ok (.string ⟨#[48]⟩) w := by kernel_rfl
theorem conv_d1 (w : World) : (convert 21 9 (.int .i32 49)).run Tryz.prog w = .ok (.string ⟨#[49]⟩) w := by kernel_rfl
theorem conv_d2 (w : World) : (convert 21 9 (.int .i32 50)).run Tryz.prog w = .ok (.string ⟨#[50]⟩) w := by kernel_rfl
theorem conv_d3 (w : World) : (convert 21 9 (.int .i32 51)).run Tryz.prog w = .ok (.string ⟨#[51]⟩) w := by kernel_rfl
theorem conv_d4 (w : World) : (convert 21 9 (.int .i32 52)).run Tryz.prog w = .ok (.string ⟨#[52]⟩) w := by kernel_rfl
theorem conv_d5 (w : World) : (convert 21 9 (.int .i32 53)).run Tryz.prog w = .ok (.string ⟨#[53]⟩) w := by kernel_rfl
theorem conv_d6 (w : World) : (convert 21 9 (.int .i32 54)).run Tryz.prog w = .ok (.string ⟨#[54]⟩) w := by kernel_rfl
theorem conv_d7 (w : World) : (convert 21 9 (.int .i32 55)).run Tryz.prog w = .ok (.string ⟨#[55]⟩) w := by kernel_rfl
theorem conv_d8 (w : World) : (convert 21 9 (.int .i32 56)).run Tryz.prog w = .ok (.string ⟨#[56]⟩) w := by kernel_rfl
theorem conv_d9 (w : World) : (convert 21 9 (.int .i32 57)).run Tryz.prog w = .ok (.string ⟨#[57]⟩) w := by kernel_rfl
theorem conv_digit (d : Nat) (h : d < 10) (w : World) : (convert 21 9 (.int .i32 (((48 + d : Nat)) : Int))).run Tryz.prog w = .ok (.string ⟨[UInt8.ofNat (48 + d)].toArray⟩) w := by
  obtain rfl | rfl | rfl | rfl | rfl | rfl | rfl | rfl | rfl | rfl : d = 0 ∨ d = 1 ∨ d = 2 ∨ d = 3 ∨ d = 4 ∨ d = 5 ∨ d = 6 ∨ d = 7 ∨ d = 8 ∨ d = 9 := by omega
  · exact conv_d0 w
  · exact conv_d1 w
  · exact conv_d2 w
  · exact conv_d3 w
  · exact conv_d4 w
  · exact conv_d5 w
  · exact conv_d6 w
  · exact conv_d7 w
  · exact conv_d8 w
  · exact conv_d9 w
set_option maxHeartbeats 1000000 in
theorem r1_FromInt (w : World) (n : Nat) (h : n ≤ 9223372036854775807) : Calls Tryz.prog 42 #[.int .i64 n] w fun e w' => e = .returned (.tuple #[numV n, .int .i64 0]) ∧ w = w' := by
  have hd20 := hid (show nDigits n ≤ 19 from nDigits_le (by omega) (by omega))
  go_enter Tryz.func42, Tryz.ntmps42
  go_wp2_with fail
  go_loop [0, 4] (fun nn ss => ∃ (m : Nat) (l : List UInt8), nn = .int .i64 m ∧ m ≤ 9223372036854775807 ∧ ss = .string ⟨l.toArray⟩ ∧ l.length ≤ 19 ∧ Hid (decDigits n = decDigits m ++ l)) (fun nn _ => (intOf nn).toNat)
  case atStart => exact ⟨n, [], rfl, h, rfl, by simp, by simp [Hid]⟩
  case round =>
    obtain ⟨m, l, rfl, hm, rfl, hl, hd⟩ := hrel
    have hc := conv_digit (m % 10) (by omega)
    have hz : (((48 + m % 10 : Nat)) : Int) = 48 + (m : Int) % 10 := by omega
    rw [hz] at hc
    by_cases h9 : 9 < m
    · have q1 : decide ((9 : Int) < (m : Int)) = true := by simp; omega
      have hdm := hid (decDigits_big (u := m) (by omega))
      have hl19 : l.length + 1 ≤ 19 := by
        have h1 := congrArg List.length hd.out
        rw [List.length_append, Go.Lib.decDigits_length] at h1
        have h2 := hd20.out
        have h3 := dec_length_pos m
        omega
      clear hz
      go_wp2_with fail
      go_round
      case rel => exact ⟨m / 10, UInt8.ofNat (48 + m % 10) :: l, by go_num, by omega, by simp [Go.ByteArray.mk_append_mk], by simpa using hl19, by rw [Hid, hd.out, hdm.out]; simp⟩
      case measure => simp [intOf] <;> omega
    · have q1 : decide ((9 : Int) < (m : Int)) = false := by simp; omega
      have hm9 : m < 10 := by omega
      have hdm := hid (decDigits_small hm9)
      have hmm : m % 10 = m := Nat.mod_eq_of_lt hm9
      rw [hmm] at hc
      have hmI : (48 + (m : Int) % 10) = 48 + (m : Int) := by omega
      rw [hmI] at hc
      clear hz hmm hmI h9
      go_wp2_with fail
      go_ret2
      refine ⟨ret_pair ?_ rfl, rfl⟩
      rw [numV, hd.out, hdm.out]
      simp [Go.ByteArray.mk_append_mk]
end Go.Proofs.YtpehhgkghgbhiaaGreatDoor
namespace Go.Proofs.YtpehhgkghgbhiaaGreatDoor
open Go.RowKit
open Go.Lib (decDigits nDigits)
set_option linter.unusedVariables false
set_option linter.unusedSimpArgs false
theorem r2_Int (w : World) (n : Nat) (h : n ≤ 9223372036854775807) : Calls Tryz.prog 12 #[.int .i64 n] w fun e w' => e = .returned (.string (numB n)) ∧ w = w' := by
  have q0 : decide ((0 : Int) ≤ (n : Int)) = true := by simp
  go_enter Tryz.func12, Tryz.ntmps12
  go_wp2_with fail
  refine (r1_FromInt _ n h).mono ?_; rintro e w1 ⟨rfl, rfl⟩
  rw [numV_eq]
  go_wp2_with fail
  go_ret
  exact ⟨rfl, rfl⟩
theorem r3_small (w : World) (n : Nat) (h : n ≤ 9223372036854775807) : Calls Tryz.prog 183 #[.int .i64 n] w fun e w' => RetN .i64 n e w' ∧ Below w.heap.size w w' := by
  have hd := hid (show nDigits n ≤ 9000 from Nat.le_trans (nDigits_le (k := 19) (by omega) (by omega)) (by omega))
  go_enter Tryz.func183, Tryz.ntmps183
  go_wp2_with fail
  refine (r2_Int _ n h).mono ?_; rintro e w1 ⟨rfl, rfl⟩
  go_wp2_with fail
  refine (r1_Read_num _ n hd.out).mono ?_; rintro e w1 ⟨⟨v, rfl, hv⟩, hb⟩
  go_wp2_with fail
  go_ret
  exact ⟨⟨_, rfl, hv⟩, hb⟩
theorem limbs_two {n k : Nat} (h : n < 2 ^ k) : (limbs n).length ≤ k :=
  limbs_length_le.2 (Nat.lt_of_lt_of_le h (Nat.pow_le_pow_left (by omega) k))
/-- The number of a bit string. -/
def bv (l : List UInt8) : Nat := l.foldl (fun a b => a + a + (if b = 49 then 1 else 0)) 0
theorem bv_snoc (l : List UInt8) (b : UInt8) : bv (l ++ [b]) = bv l + bv l + (if b = 49 then 1 else 0) := by simp [bv]
theorem bv_take {l : List UInt8} {i : Nat} {b : UInt8} (h : l[i]? = some b) : bv (l.take (i + 1)) = bv (l.take i) + bv (l.take i) + (if b = 49 then 1 else 0) := by
  rw [List.take_add_one, h]
  exact bv_snoc _ _
theorem bv_lt {l : List UInt8} : ∀ (i : Nat), i ≤ l.length → bv (l.take i) < 2 ^ i
  | 0, _ => by simp [bv]
  | i + 1, h => by
    have ih := bv_lt (l := l) i (by omega)
    rw [bv_take (l := l) (i := i) (b := l[i]) (List.getElem?_eq_getElem (by omega)), Nat.pow_succ]
    split <;> omega
set_option maxRecDepth 100000 in
set_option maxHeartbeats 1000000 in
theorem r3_Value (w : World) (s : ByteArray) (hs : s.size ≤ 100000) : Calls Tryz.prog 182 #[.string s] w fun e w' => RetN .i64 (bv s.data.toList) e w' ∧ Below w.heap.size w w' := by
  have hsl := hid (show s.data.toList.length = s.size from by simp)
  go_enter Tryz.func182, Tryz.ntmps182
  go_wp2_with fail
  refine (r3_small _ 0 (by omega)).mono ?_; rintro e w1 ⟨⟨v, rfl, hv⟩, hb⟩
  have V := hid hv; have B := hid hb
  clear hv hb
  go_wp2_with fail
  go_loopw [3, 4] (fun o ii wr => ∃ i : Nat, ii = .int .i64 i ∧ i ≤ s.size ∧ Hid (IsN .i64 wr o (bv (s.data.toList.take i))) ∧ Hid (Below w.heap.size w wr)) (fun o ii wr => s.size - (intOf ii).toNat)
  case atStart => exact ⟨0, rfl, Nat.zero_le _, V, B⟩
  case round =>
    obtain ⟨i, rfl, hi, hO, hB⟩ := hrel
    by_cases hlt : i < s.size
    · have hget := byte_get hlt
      have hl := bv_lt (l := s.data.toList) i (by rw [hsl.out]; exact hi)
      have hl2 := bv_lt (l := s.data.toList) (i + 1) (by rw [hsl.out]; exact hlt)
      have hbt := hid (bv_take hget)
      have ll : Hid ((limbs (bv (s.data.toList.take i))).length ≤ 1000000) := Nat.le_trans (limbs_two hl) (by omega)
      have ll2 : Hid ((limbs (bv (s.data.toList.take i) + bv (s.data.toList.take i))).length ≤ 1000000) := by
        refine Nat.le_trans (limbs_two (k := i + 1) ?_) (by omega)
        rw [Nat.pow_succ]; omega
      have l1 : Hid ((limbs 1).length ≤ 1000000) := by show _ ≤ _; rw [limbs_one]; decide
      by_cases hb : s[i] = 49
      · have q1 : ((s[i].toNat : Int) == 49) = true := by rw [hb]; rfl
        rw [if_pos hb] at hbt
        clear hget hl hl2 hb
        go_wp2_with fail
        refine (r1_Plus _ _ _ _ _ hO.out hO.out ll.out ll.out).mono ?_; rintro e w2 ⟨⟨v2, rfl, hv2⟩, hb2⟩
        have V2 := hid hv2; have B2 := hid (bnext hB.out hb2)
        clear hv2 hb2
        go_wp2_with fail
        refine (r3_small _ 1 (by omega)).mono ?_; rintro e w3 ⟨⟨v3, rfl, hv3⟩, hb3⟩
        have V3 := hid hv3; have B3 := hid (bnext B2.out hb3); have V2' := hid (V2.out.call hb3)
        clear hv3 hb3 V2
        go_wp2_with fail
        refine (r1_Plus _ _ _ _ _ V2'.out V3.out ll2.out l1.out).mono ?_; rintro e w4 ⟨⟨v4, rfl, hv4⟩, hb4⟩
        have V4 := hid hv4; have B4 := hid (bnext B3.out hb4)
        clear hv4 hb4
        go_wp2_with fail
        go_roundw
        case rel => exact ⟨i + 1, by go_num, by omega, V4.out.cast hbt.out.symm, B4⟩
        case measure => simp [intOf] <;> omega
      · have q1 : ((s[i].toNat : Int) == 49) = false := by
          rw [beq_eq_false_iff_ne]
          intro e
          refine hb ?_
          have : s[i].toNat = (49 : UInt8).toNat := by simp; omega
          exact UInt8.toNat_inj.1 this
        rw [if_neg hb] at hbt
        clear hget hl hl2 hb
        go_wp2_with fail
        refine (r1_Plus _ _ _ _ _ hO.out hO.out ll.out ll.out).mono ?_; rintro e w2 ⟨⟨v2, rfl, hv2⟩, hb2⟩
        have V2 := hid hv2; have B2 := hid (bnext hB.out hb2)
        clear hv2 hb2
        go_wp2_with fail
        go_roundw
        case rel => exact ⟨i + 1, by go_num, by omega, V2.out.cast hbt.out.symm, B2⟩
        case measure => simp [intOf] <;> omega
    · obtain rfl : i = s.size := by omega
      go_wp2_with fail
      go_ret
      refine ⟨⟨_, rfl, hO.out.cast ?_⟩, hB.out⟩
      rw [← hsl.out, List.take_length]
set_option maxRecDepth 100000 in
set_option maxHeartbeats 1000000 in
theorem r3_Two (w : World) (n : Nat) (hn : n ≤ 100000) : Calls Tryz.prog 152 #[.int .i64 n] w fun e w' => RetN .i64 (2 ^ n) e w' ∧ Below w.heap.size w w' := by
  go_enter Tryz.func152, Tryz.ntmps152
  go_wp2_with fail
  refine (r3_small _ 1 (by omega)).mono ?_; rintro e w1 ⟨⟨v, rfl, hv⟩, hb⟩
  have V := hid hv; have B := hid hb
  clear hv hb
  go_wp2_with fail
  go_loopw [0, 3] (fun nn o wr => ∃ j : Nat, nn = .int .i64 j ∧ j ≤ n ∧ Hid (IsN .i64 wr o (2 ^ (n - j))) ∧ Hid (Below w.heap.size w wr)) (fun nn o wr => (intOf nn).toNat)
  case atStart => exact ⟨n, rfl, Nat.le_refl _, by rw [Nat.sub_self, Nat.pow_zero]; exact V, B⟩
  case round =>
    obtain ⟨j, rfl, hj, hO, hB⟩ := hrel
    by_cases h0 : 0 < j
    · have q0 : decide ((0 : Int) < (j : Int)) = true := by simp; omega
      have ll : Hid ((limbs (2 ^ (n - j))).length ≤ 1000000) := Nat.le_trans (limbs_two (k := n - j + 1) (Nat.pow_lt_pow_right (by omega) (by omega))) (by omega)
      have hs : Hid (2 ^ (n - j) + 2 ^ (n - j) = 2 ^ (n - (j - 1))) := by
        show _ = _
        rw [show n - (j - 1) = n - j + 1 by omega, Nat.pow_succ]; omega
      go_wp2_with fail
      refine (r1_Plus _ _ _ _ _ hO.out hO.out ll.out ll.out).mono ?_; rintro e w2 ⟨⟨v2, rfl, hv2⟩, hb2⟩
      have V2 := hid hv2; have B2 := hid (bnext hB.out hb2)
      clear hv2 hb2
      go_wp2_with fail
      go_roundw
      case rel => exact ⟨j - 1, by go_num, by omega, V2.out.cast hs.out, B2⟩
      case measure => simp [intOf] <;> omega
    · obtain rfl : j = 0 := by omega
      go_wp2_with fail
      go_ret
      exact ⟨⟨_, rfl, hO.out⟩, hB.out⟩
set_option maxRecDepth 100000 in
set_option maxHeartbeats 1000000 in
theorem r3_Check (w : World) (s : ByteArray) (hs : s.size ≤ 9223372036854775807) : Calls Tryz.prog 150 #[.string s] w fun e w' => e = .returned (.int .i64 (bitE s)) ∧ w = w' := by
  have hsl := hid (show s.data.toList.length = s.size from by simp)
  go_enter Tryz.func150, Tryz.ntmps150
  go_wp2_with fail
  go_loop [3] (fun ii => ∃ i : Nat, ii = .int .i64 i ∧ i ≤ s.size ∧ Hid (∀ (j : Nat) (b : UInt8), j < i → s.data.toList[j]? = some b → b = 48 ∨ b = 49)) (fun ii => s.size - (intOf ii).toNat)
  case atStart => exact ⟨0, rfl, Nat.zero_le _, fun j b hj => absurd hj (by omega)⟩
  case round =>
    obtain ⟨i, rfl, hi, hI⟩ := hrel
    by_cases hlt : i < s.size
    · have hb := hid (byte_get hlt)
      have ne : ∀ k : UInt8, s[i] ≠ k → ((s[i].toNat : Int) != (k.toNat : Int)) = true := fun k h => by
        rw [bne_iff_ne]
        intro e
        exact h (UInt8.toNat_inj.1 (by omega))
      by_cases c1 : s[i] = 48
      · have q1 : ((s[i].toNat : Int) != 48) = false := by rw [c1]; rfl
        have hB := hid c1
        clear c1 ne
        go_wp2_with fail
        go_round
        case rel => exact ⟨i + 1, by go_num, by omega, fun j b hj hjb => by
          by_cases e : j = i
          · subst e; rw [hb.out] at hjb; cases hjb; exact .inl hB.out
          · exact hI.out j b (by omega) hjb⟩
        case measure => simp [intOf] <;> omega
      · have q1 : ((s[i].toNat : Int) != 48) = true := ne 48 c1
        by_cases c2 : s[i] = 49
        · have q2 : ((s[i].toNat : Int) != 49) = false := by rw [c2]; rfl
          have hB := hid c2
          clear c1 c2 ne
          go_wp2_with fail
          go_round
          case rel => exact ⟨i + 1, by go_num, by omega, fun j b hj hjb => by
            by_cases e : j = i
            · subst e; rw [hb.out] at hjb; cases hjb; exact .inr hB.out
            · exact hI.out j b (by omega) hjb⟩
          case measure => simp [intOf] <;> omega
        · have q2 : ((s[i].toNat : Int) != 49) = true := ne 49 c2
          have hB := hid (And.intro c1 c2)
          clear c1 c2 ne
          go_wp2_with fail
          go_ret
          refine ⟨ret_int ?_, rfl⟩
          have : bitB s = false := by
            unfold bitB
            rw [Bool.eq_false_iff]
            intro h
            rw [List.all_eq_true] at h
            have := h _ (List.mem_of_getElem? hb.out)
            simp [hB.out.1, hB.out.2] at this
          unfold bitE
          rw [this]
          rfl
    · have e1 : i = s.size := by omega
      subst e1
      go_wp2_with fail
      go_ret
      refine ⟨ret_int ?_, rfl⟩
      have : bitB s = true := by
        unfold bitB
        rw [List.all_eq_true]
        intro b hb
        obtain ⟨j, hj, rfl⟩ := List.getElem_of_mem hb
        have := hI.out j _ (by rw [← hsl.out]; exact hj) (List.getElem?_eq_getElem hj)
        simpa using this
      unfold bitE
      rw [this]
      rfl
end Go.Proofs.YtpehhgkghgbhiaaGreatDoor
namespace Go.Proofs.YtpehhgkghgbhiaaGreatDoor
open Go.RowKit
open Go.Lib (decDigits nDigits)
set_option linter.unusedVariables false
set_option linter.unusedSimpArgs false
set_option maxRecDepth 100000 in
set_option maxHeartbeats 1000000 in
theorem r2_Check (w : World) (s : ByteArray) (hs : s.size ≤ 1000000) : Calls Tryz.prog 110 #[.string s] w fun e w' => e = .returned (.int .i64 (qE s)) ∧ Below w.heap.size w w' := by
  have R1 := fun V => hid (r2_Read V s hs)
  clear hs
  go_enter Tryz.func110, Tryz.ntmps110
  go_wp2_with fail
  refine (R1 _).out.mono ?_; rintro e w1 ⟨hr1, hb1⟩
  obtain ⟨m, a, n, c, a', n', c', rfl, h1, h2⟩ := hr1.open
  obtain ⟨x, hx⟩ : ∃ x, qE s = x := ⟨_, rfl⟩
  have HX := hid hx
  rw [hx]
  have y2 := hid (hb1.alloc hb1.size (.cells #[.bool m, .slice a n c, .slice a' n' c'] 66))
  clear h1 h2 hr1 hb1 hx R1
  go_wp2_with fail
  go_ret
  exact ⟨by rw [HX.out]; rfl, y2.out⟩
theorem IsQ.parts {k : IntKind} {w : World} {m : Bool} {N D : Value} {q : Rat} (h : IsQ k w (.agg #[.bool m, N, D]) q) : IsN k w N q.num.natAbs ∧ IsN k w D q.den := by
  obtain ⟨N', D', e, h1, h2⟩ := h.ex
  simp at e
  obtain ⟨-, rfl, rfl⟩ := e
  exact ⟨h1, h2⟩
theorem IsQ.sign {k : IntKind} {w : World} {m : Bool} {N D : Value} {q : Rat} (h : IsQ k w (.agg #[.bool m, N, D]) q) : m = decide (q.num < 0) := by
  obtain ⟨N', D', e, h1, h2⟩ := h.ex
  simp at e
  simpa using e.1
/-- The error of long parts. -/
def shE (n d : Nat) : Int := if 1000 < nDigits n ∨ 1000 < nDigits d then 5 else 0
set_option maxRecDepth 100000 in
set_option maxHeartbeats 1000000 in
theorem r4_Short (w : World) (s : ByteArray) (hs : s.size ≤ 1000000) (hq : qE s = 0) : Calls Tryz.prog 111 #[.string s] w fun e w' => e = .returned (.int .i64 (shE (vQ s).num.natAbs (vQ s).den)) ∧ Below w.heap.size w w' := by
  have R1 := fun V => hid (r2_Read V s hs)
  have dl := hid ((dig_of_fits (vQ_fits hq)).limbs (L := 1000000) (by omega) (by omega))
  obtain ⟨n, hn⟩ : ∃ n, (vQ s).num.natAbs = n := ⟨_, rfl⟩
  obtain ⟨d, hd⟩ : ∃ d, (vQ s).den = d := ⟨_, rfl⟩
  have HQ := hid hq
  rw [hn, hd] at dl
  rw [hn, hd]
  have HN := hid hn; have HD := hid hd
  have sz := hid (numB_size n); have sz2 := hid (numB_size d)
  clear hs hn hd
  obtain ⟨B1, hB1⟩ : ∃ B, numB n = B := ⟨_, rfl⟩
  obtain ⟨B2, hB2⟩ : ∃ B, numB d = B := ⟨_, rfl⟩
  rw [hB1] at sz
  rw [hB2] at sz2
  have E1 := hid hB1; have E2 := hid hB2
  clear hB1 hB2 hq
  have key : (1000 < B1.size ∧ shE n d = 5) ∨ (¬ 1000 < B1.size ∧ 1000 < B2.size ∧ shE n d = 5) ∨ (¬ 1000 < B1.size ∧ ¬ 1000 < B2.size ∧ shE n d = 0) := by
    rw [sz.out, sz2.out]
    unfold shE
    by_cases h1 : 1000 < nDigits n
    · exact .inl ⟨h1, if_pos (.inl h1)⟩
    · by_cases h2 : 1000 < nDigits d
      · exact .inr (.inl ⟨h1, h2, if_pos (.inr h2)⟩)
      · exact .inr (.inr ⟨h1, h2, if_neg (fun h => h.elim h1 h2)⟩)
  rcases key with ⟨k1, k2⟩ | ⟨k1, k2, k3⟩ | ⟨k1, k2, k3⟩
  · have q0 : decide ((1000 : Int) < (B1.size : Int)) = true := by simp; omega
    rw [k2]
    clear k1 k2
    go_enter Tryz.func111, Tryz.ntmps111
    go_wp2_with fail
    refine (R1 _).out.mono ?_; rintro e w1 ⟨hr1, hb1⟩
    obtain ⟨m, a, k, c, a', k', c', rfl, h1, h2⟩ := hr1.open
    have q := h1 HQ.out
    rw [HQ.out]
    obtain ⟨hN, hD⟩ := q.parts
    rw [HN.out] at hN
    rw [HD.out] at hD
    have b2 := hid ((Below.refl w1.heap.size w1).alloc (Nat.le_refl _) (.cells #[.bool m, .slice a k c, .slice a' k' c'] 66))
    have X2 := hid (Blk.new w1 #[.bool m, .slice a k c, .slice a' k' c'] 66)
    have N2 := hid (hN.call b2.out); have D2 := hid (hD.call b2.out)
    have y2 := hid (bnext hb1 b2.out)
    have g1 := X2.out.cell 1
    have g2 := X2.out.cell 2
    simp at g1 g2
    clear h1 h2 hr1 hb1 q hN hD b2
    clear g2 R1
    go_wp2_with fail
    refine (r1_Write _ _ _ N2.out dl.out.1).mono ?_; rintro e w3 ⟨rfl, hb3⟩
    rw [numV_eq, E1.out]
    have y3 := hid (bnext y2.out hb3)
    clear hb3
    go_wp2_with fail
    go_ret
    exact ⟨rfl, y3.out⟩
  · have q0 : decide ((1000 : Int) < (B1.size : Int)) = false := by simp; omega
    have q1 : decide ((1000 : Int) < (B2.size : Int)) = true := by simp; omega
    rw [k3]
    clear k1 k2 k3
    go_enter Tryz.func111, Tryz.ntmps111
    go_wp2_with fail
    refine (R1 _).out.mono ?_; rintro e w1 ⟨hr1, hb1⟩
    obtain ⟨m, a, k, c, a', k', c', rfl, h1, h2⟩ := hr1.open
    have q := h1 HQ.out
    rw [HQ.out]
    obtain ⟨hN, hD⟩ := q.parts
    rw [HN.out] at hN
    rw [HD.out] at hD
    have b2 := hid ((Below.refl w1.heap.size w1).alloc (Nat.le_refl _) (.cells #[.bool m, .slice a k c, .slice a' k' c'] 66))
    have X2 := hid (Blk.new w1 #[.bool m, .slice a k c, .slice a' k' c'] 66)
    have N2 := hid (hN.call b2.out); have D2 := hid (hD.call b2.out)
    have y2 := hid (bnext hb1 b2.out)
    have g1 := X2.out.cell 1
    have g2 := X2.out.cell 2
    simp at g1 g2
    clear h1 h2 hr1 hb1 q hN hD b2
    clear R1
    go_wp2_with fail
    refine (r1_Write _ _ _ N2.out dl.out.1).mono ?_; rintro e w3 ⟨rfl, hb3⟩
    rw [numV_eq, E1.out]
    have y3 := hid (bnext y2.out hb3)
    have D3 := hid (D2.out.call hb3)
    have g3 := (X2.out.call hb3).cell 2
    simp at g3
    clear hb3 g1 g2
    go_wp2_with fail
    refine (r1_Write _ _ _ D3.out dl.out.2).mono ?_; rintro e w4 ⟨rfl, hb4⟩
    rw [numV_eq, E2.out]
    have y4 := hid (bnext y3.out hb4)
    clear hb4
    go_wp2_with fail
    go_ret
    exact ⟨rfl, y4.out⟩
  · have q0 : decide ((1000 : Int) < (B1.size : Int)) = false := by simp; omega
    have q1 : decide ((1000 : Int) < (B2.size : Int)) = false := by simp; omega
    rw [k3]
    clear k1 k2 k3
    go_enter Tryz.func111, Tryz.ntmps111
    go_wp2_with fail
    refine (R1 _).out.mono ?_; rintro e w1 ⟨hr1, hb1⟩
    obtain ⟨m, a, k, c, a', k', c', rfl, h1, h2⟩ := hr1.open
    have q := h1 HQ.out
    rw [HQ.out]
    obtain ⟨hN, hD⟩ := q.parts
    rw [HN.out] at hN
    rw [HD.out] at hD
    have b2 := hid ((Below.refl w1.heap.size w1).alloc (Nat.le_refl _) (.cells #[.bool m, .slice a k c, .slice a' k' c'] 66))
    have X2 := hid (Blk.new w1 #[.bool m, .slice a k c, .slice a' k' c'] 66)
    have N2 := hid (hN.call b2.out); have D2 := hid (hD.call b2.out)
    have y2 := hid (bnext hb1 b2.out)
    have g1 := X2.out.cell 1
    have g2 := X2.out.cell 2
    simp at g1 g2
    clear h1 h2 hr1 hb1 q hN hD b2
    clear R1
    go_wp2_with fail
    refine (r1_Write _ _ _ N2.out dl.out.1).mono ?_; rintro e w3 ⟨rfl, hb3⟩
    rw [numV_eq, E1.out]
    have y3 := hid (bnext y2.out hb3)
    have D3 := hid (D2.out.call hb3)
    have g3 := (X2.out.call hb3).cell 2
    simp at g3
    clear hb3 g1 g2
    go_wp2_with fail
    refine (r1_Write _ _ _ D3.out dl.out.2).mono ?_; rintro e w4 ⟨rfl, hb4⟩
    rw [numV_eq, E2.out]
    have y4 := hid (bnext y3.out hb4)
    clear hb4
    go_wp2_with fail
    go_ret
    exact ⟨rfl, y4.out⟩
end Go.Proofs.YtpehhgkghgbhiaaGreatDoor
namespace Go.Proofs.YtpehhgkghgbhiaaGreatDoor
open Go.RowKit
open Go.Lib (decDigits nDigits)
set_option linter.unusedVariables false
/-- The error of a base, by the number of its text. -/
theorem bPE_ref {s : ByteArray} (h : qE s = 0) : bPE s = if (vQ s).num < 0 then 2 else if (vQ s).num.natAbs < (vQ s).den then 2 else shE (vQ s).num.natAbs (vQ s).den := by
  obtain ⟨e1, e2, e3⟩ := vQ_ok h
  obtain ⟨h1, h2, h3⟩ := qE_zero h
  have hn : iM (cW s) = true ↔ (vQ s).num < 0 := by rw [← e1]; simp
  have hW0 := iB_form (qB_whole h1)
  have hD := qB_below h1
  unfold bPE
  rw [if_neg (by rw [h]; simp)]
  by_cases hm : iM (cW s) = true
  · rw [if_pos (.inl hm), if_pos (hn.1 hm)]
  · have hm' : iM (cW s) = false := by simpa using hm
    rw [iD_plain hm'] at hW0 e2
    unfold qL at h2
    rw [iD_plain hm'] at h2
    simp only [Bool.or_eq_false_iff, decide_eq_false_iff_not] at h2
    have s1 : (cW s).data.toList.length = (cW s).size := Array.length_toList
    have s2 : (qD s).data.toList.length = (qD s).size := Array.length_toList
    have c1 : cmpN (cW s).data.toList (qD s).data.toList = ordN (vQ s).num.natAbs (vQ s).den := by
      rw [cmpN, if_pos ⟨errN_ok (formB_iff.1 hW0) (by omega), errN_ok (formB_iff.1 hD) (by omega)⟩, e2, e3]
      rfl
    have z1 : (cW s).size = nDigits (vQ s).num.natAbs := by rw [e2, ← numB_size, ← numB_of hW0]
    have z2 : (qD s).size = nDigits (vQ s).den := by rw [e3, ← numB_size, ← numB_of hD]
    rw [c1, z1, z2, if_neg (show ¬ (vQ s).num < 0 from fun h => hm (hn.2 h))]
    have ho : ordN (vQ s).num.natAbs (vQ s).den < 0 ↔ (vQ s).num.natAbs < (vQ s).den := by
      unfold ordN
      split
      · constructor <;> intro h <;> omega
      · split <;> constructor <;> intro h <;> omega
    unfold shE
    by_cases hle : (vQ s).num.natAbs < (vQ s).den
    · rw [if_pos (.inr (ho.2 hle)), if_pos hle]
    · rw [if_neg (fun h => h.elim hm (fun h => hle (ho.1 h))), if_neg hle]
/-- The numerator and the denominator of a good base. -/
theorem bPE_parts {s : ByteArray} (h : bPE s = 0) : cW s = numB (vQ s).num.natAbs ∧ qD s = numB (vQ s).den ∧ ¬ (vQ s).num < 0 ∧ (vQ s).den ≤ (vQ s).num.natAbs ∧ nDigits (vQ s).num.natAbs ≤ 1000 ∧ nDigits (vQ s).den ≤ 1000 := by
  obtain ⟨k1, k2, k3, hq⟩ := bPE_size h
  have hr := bPE_ref hq
  rw [h] at hr
  obtain ⟨e1, e2, e3⟩ := vQ_ok hq
  obtain ⟨h1, h2, h3⟩ := qE_zero hq
  by_cases hm : (vQ s).num < 0
  · rw [if_pos hm] at hr; exact absurd hr (by decide)
  · rw [if_neg hm] at hr
    by_cases hl : (vQ s).num.natAbs < (vQ s).den
    · rw [if_pos hl] at hr; exact absurd hr (by decide)
    · rw [if_neg hl] at hr
      have hm' : iM (cW s) = false := by
        cases hc : iM (cW s)
        · rfl
        · rw [hc] at e1; exact absurd (by simpa using e1.symm) hm
      have hW0 := iB_form (qB_whole h1)
      rw [iD_plain hm'] at hW0 e2
      have w1 := numB_of hW0
      have w2 := numB_of (qB_below h1)
      have f1 : cW s = numB (vQ s).num.natAbs := by rw [e2]; exact w1
      have f2 : qD s = numB (vQ s).den := by rw [e3]; exact w2
      have z1 : nDigits (vQ s).num.natAbs ≤ 1000 := by rw [← numB_size, ← f1]; exact k2
      have z2 : nDigits (vQ s).den ≤ 1000 := by rw [← numB_size, ← f2]; exact k3
      exact ⟨f1, f2, hm, by omega, z1, z2⟩
end Go.Proofs.YtpehhgkghgbhiaaGreatDoor
namespace Go.Proofs.YtpehhgkghgbhiaaGreatDoor
open Go.RowKit Go.Shelf Go.Maps
open Go.Lib (decDigits nDigits)
set_option linter.unusedVariables false
set_option linter.unusedSimpArgs false
/-- The error of utilities, a base and a bound. -/
def cwE (us : List Int) (s : ByteArray) (B : Int) : Int := if (us.length = 0 ∨ 64 < us.length) ∨ us.any wildB = true then 2 else if bPE s ≠ 0 then bPE s else if B < 0 ∨ (mbB s : Int) < B then 2 else 0
/-- The weights as texts. -/
def cwT (us : List Int) (s : ByteArray) (B : Int) : List ByteArray := us.map fun u => numB (cwN (vQ s).num.natAbs (vQ s).den B.toNat u)
def cwR (us : List Int) (s : ByteArray) (B : Int) : List ByteArray := if cwE us s B = 0 then cwT us s B else []
theorem cwE_ok {us : List Int} {s : ByteArray} {B : Int} (h : cwE us s B = 0) : 1 ≤ us.length ∧ us.length ≤ 64 ∧ us.any wildB = false ∧ bPE s = 0 ∧ 0 ≤ B ∧ B ≤ mbB s := by
  unfold cwE at h
  split at h
  · exact absurd h (by decide)
  · rename_i h1
    split at h
    · rename_i h2; exact absurd h h2
    · rename_i h2
      split at h
      · exact absurd h (by decide)
      · rename_i h3
        refine ⟨by omega, by omega, ?_, Decidable.not_not.1 h2, by omega, by omega⟩
        cases hc : us.any wildB
        · rfl
        · exact absurd (.inr hc) h1
theorem base_ok {s : ByteArray} {B : Nat} (h : bPE s = 0) (hB : B ≤ mbB s) : ChOk (vQ s).num.natAbs (vQ s).den B ∧ B ≤ 200 := by
  obtain ⟨k1, k2, k3, k4, k5, k6⟩ := bPE_parts h
  have e : mbB s = 400 / (2 * nDigits (vQ s).num.natAbs) := by rw [mbB, if_pos h, k1, numB_size]
  have hp := nd_pos (vQ s).num.natAbs
  rw [e] at hB
  have h1 : B * (2 * nDigits (vQ s).num.natAbs) ≤ 400 := (Nat.le_div_iff_mul_le (by omega)).1 hB
  refine ⟨⟨(vQ s).den_pos, k4, by rw [Nat.mul_comm 2 B, Nat.mul_assoc]; exact h1⟩, ?_⟩
  have : 400 / (2 * nDigits (vQ s).num.natAbs) ≤ 400 / 2 := Nat.div_le_div_left (by omega) (by omega)
  omega
theorem Lay.kp2 {w w' : World} {b1 b2 : Nat} (h : Lay w) (hk : Kp2 b1 b2 w w') (h1 : LayLt b1) (h2 : LayLt b2) (l1 : b1 ≤ w.heap.size) (l2 : b2 ≤ w.heap.size) : Lay w' := by
  refine h.below (B := min b1 b2) ⟨hk.os, hk.tape, hk.output, hk.size, fun i hi => hk.block i (by omega) (by omega) (by omega)⟩ ?_
  unfold LayLt at *
  omega
/-- The tables as they are made. -/
def wtW (w : World) (Tn Td : ByteArray) : World := (((((w.alloc (.map #[] 0)).alloc (.cells #[.string Tn, .map (some w.heap.size)] 95)).alloc (.map #[] 0)).alloc (.cells #[.string Td, .map (some (w.heap.size + 1 + 1))] 95)).alloc (.cells #[.pointer (some ⟨w.heap.size + 1, 0, none⟩)] 92)).alloc (.cells #[.pointer (some ⟨w.heap.size + 1 + 1 + 1, 0, none⟩)] 92)
theorem no_keys {k : Lit} (h : Maps.has (.map [] : DataW Unit) k = true) : False := by simp [Maps.has_eq] at h
theorem wt_made (w : World) (n d B gb : Nat) (cb : w.cell? ⟨gb, 0, none⟩ = some (.int .i64 (B : Nat))) :
    WtI (wtW w (numB n) (numB d)) gb (w.heap.size + 1 + 1 + 1 + 1) (w.heap.size + 1 + 1 + 1 + 1 + 1) (w.heap.size + 1) (w.heap.size + 1 + 1 + 1) w.heap.size (w.heap.size + 1 + 1) n d B 0 ∧ Below w.heap.size w (wtW w (numB n) (numB d)) ∧ (wtW w (numB n) (numB d)).heap.size = w.heap.size + 6 := by
  have hB : Below w.heap.size w (wtW w (numB n) (numB d)) := by
    unfold wtW
    exact ((((((Below.refl _ _).alloc (Nat.le_refl _) _).alloc (by simp) _).alloc (by simp; omega) _).alloc (by simp; omega) _).alloc (by simp; omega) _).alloc (by simp; omega) _
  refine ⟨⟨(hB.cell (p := ⟨gb, 0, none⟩) (cell_lt cb)).trans cb, ?_, ?_, ⟨?_, .map [], ?_, fun j hj => (no_keys hj).elim⟩, ⟨?_, .map [], ?_, fun j hj => (no_keys hj).elim⟩⟩, hB, by unfold wtW; simp⟩
  · have := ((Blk.made ((((w.alloc (.map #[] 0)).alloc (.cells #[.string (numB n), .map (some w.heap.size)] 95)).alloc (.map #[] 0)).alloc (.cells #[.string (numB d), .map (some (w.heap.size + 1 + 1))] 95)) #[.pointer (some ⟨w.heap.size + 1, 0, none⟩)] 92 (n := w.heap.size + 1 + 1 + 1 + 1) (by simp)).alloc (.cells #[.pointer (some ⟨w.heap.size + 1 + 1 + 1, 0, none⟩)] 92)).cell 0
    exact this
  · have := (Blk.made (((((w.alloc (.map #[] 0)).alloc (.cells #[.string (numB n), .map (some w.heap.size)] 95)).alloc (.map #[] 0)).alloc (.cells #[.string (numB d), .map (some (w.heap.size + 1 + 1))] 95)).alloc (.cells #[.pointer (some ⟨w.heap.size + 1, 0, none⟩)] 92)) #[.pointer (some ⟨w.heap.size + 1 + 1 + 1, 0, none⟩)] 92 (n := w.heap.size + 1 + 1 + 1 + 1 + 1) (by simp)).cell 0
    exact this
  · exact ((((Blk.made (w.alloc (.map #[] 0)) #[.string (numB n), .map (some w.heap.size)] 95 (n := w.heap.size + 1) (by simp)).alloc _).alloc _).alloc _).alloc _
  · exact (((((World.ownsMap_made (H := Unit) w Tryz.prog 3 (plainElem Tryz.prog 23)).alloc _).alloc _).alloc _).alloc _).alloc _
  · exact ((Blk.made (((w.alloc (.map #[] 0)).alloc (.cells #[.string (numB n), .map (some w.heap.size)] 95)).alloc (.map #[] 0)) #[.string (numB d), .map (some (w.heap.size + 1 + 1))] 95 (n := w.heap.size + 1 + 1 + 1) (by simp)).alloc _).alloc _
  · have h := World.ownsMap_made (H := Unit) ((w.alloc (.map #[] 0)).alloc (.cells #[.string (numB n), .map (some w.heap.size)] 95)) Tryz.prog 3 (plainElem Tryz.prog 23)
    rw [show ((w.alloc (.map #[] 0)).alloc (.cells #[.string (numB n), .map (some w.heap.size)] 95)).heap.size = w.heap.size + 1 + 1 from by simp] at h
    exact ((h.alloc _).alloc _).alloc _
theorem LayLt.mono {a b : Nat} (h : LayLt a) (hab : a ≤ b) : LayLt b := by unfold LayLt at *; omega
set_option maxRecDepth 100000 in
set_option maxHeartbeats 4000000 in
theorem ch_WeightsE (w : World) (v : Value) (us : List Int) (s : ByteArray) (B : Int) (hv : Row w v (zs us)) (hs : s.size ≤ 100000) (hL : Lay w) (he : cwE us s B ≠ 0) :
    Calls Tryz.prog 25 #[v, .string s, .int .i64 B] w fun e w' => e = .returned (.tuple #[.slice none 0 0, .int .i64 (cwE us s B)]) ∧ Below w.heap.size w w' := by
  have A0 := hid ((Below.refl w.heap.size w).alloc (Nat.le_refl _) (.cells #[.int .i64 B] 3))
  have X0 := hid (Blk.new w #[.int .i64 B] 3)
  have HV := hid (hv.call A0.out)
  have PM := hid (ch_MaxBound _ s hs (hL.call A0.out))
  obtain ⟨a, c, rfl, c1, c2, -⟩ := hv.openZ
  have HC := hid (s_ContainsFuncI _ _ us 62 wildB HV.out (by omega) (enters_of Tryz.func62 (by kernel_rfl) rfl) (fun W x => ch_wild W x))
  obtain ⟨N, hN⟩ : ∃ N, us.length = N := ⟨_, rfl⟩
  have EE : cwE us s B = if (N = 0 ∨ 64 < N) ∨ us.any wildB = true then 2 else if bPE s ≠ 0 then bPE s else if B < 0 ∨ (mbB s : Int) < B then 2 else 0 := by unfold cwE; rw [hN]
  rw [EE] at he ⊢
  rw [hN] at HC c1 ⊢
  obtain ⟨wb, hwb⟩ : ∃ b, us.any wildB = b := ⟨_, rfl⟩
  rw [hwb] at HC he ⊢
  clear hv hL hN hwb EE HV
  by_cases h1 : N = 0 ∨ 64 < N
  · rw [if_pos (.inl h1)]
    obtain ⟨x, hx⟩ : ∃ x, ((N : Int) == 0) = x := ⟨_, rfl⟩
    have q1 : x = false → decide ((64 : Int) < (N : Int)) = true := fun e => by
      subst e
      have : N ≠ 0 := by intro e; subst e; simp at hx
      simp; omega
    clear h1 he
    cases x
    · have q1 := q1 rfl
      go_enter Tryz.func25, Tryz.ntmps25
      go_wp2_with fail
      go_ret2
      exact ⟨rfl, A0.out⟩
    · clear q1
      go_enter Tryz.func25, Tryz.ntmps25
      go_wp2_with fail
      go_ret2
      exact ⟨rfl, A0.out⟩
  · have q1 : ((N : Int) == 0) = false := by rw [beq_eq_false_iff_ne]; omega
    have q2 : decide ((64 : Int) < (N : Int)) = false := by simp; omega
    cases wb
    · rw [if_neg (by simpa using h1)] at he ⊢
      obtain ⟨y, hy⟩ : ∃ y, bPE s = y := ⟨_, rfl⟩
      rw [hy] at PM he ⊢
      clear h1 hy
      by_cases h2 : y = 0
      · rw [if_neg (by simpa using h2)] at he ⊢
        subst h2
        obtain ⟨M, hM⟩ : ∃ M, mbB s = M := ⟨_, rfl⟩
        rw [hM] at PM he ⊢
        have h3 : B < 0 ∨ (M : Int) < B := by
          by_cases h3 : B < 0 ∨ (M : Int) < B
          · exact h3
          · rw [if_neg h3] at he; exact absurd rfl he
        rw [if_pos h3]
        obtain ⟨x, hx⟩ : ∃ x, decide (B < 0) = x := ⟨_, rfl⟩
        have q3 : x = false → decide ((M : Int) < B) = true := fun e => by
          subst e
          simp at hx
          simp; omega
        have r0 := X0.out.cell 0
        simp at r0
        clear he h3 hM
        cases x
        · have q3 := q3 rfl
          go_enter Tryz.func25, Tryz.ntmps25
          go_wp2_with fail
          refine HC.out.mono ?_; rintro e w1 ⟨rfl, rfl⟩
          go_wp2_with fail
          refine PM.out.mono ?_; rintro e w2 ⟨rfl, hb2⟩
          have y2 := hid (bnext A0.out hb2)
          have r2 := (X0.out.call hb2).cell 0
          simp at r2
          clear hb2
          go_wp2_with fail
          go_ret2
          exact ⟨rfl, y2.out⟩
        · clear q3
          go_enter Tryz.func25, Tryz.ntmps25
          go_wp2_with fail
          refine HC.out.mono ?_; rintro e w1 ⟨rfl, rfl⟩
          go_wp2_with fail
          refine PM.out.mono ?_; rintro e w2 ⟨rfl, hb2⟩
          have y2 := hid (bnext A0.out hb2)
          have r2 := (X0.out.call hb2).cell 0
          simp at r2
          clear hb2
          go_wp2_with fail
          go_ret2
          exact ⟨rfl, y2.out⟩
      · rw [if_pos h2] at he ⊢
        have q3 : (y != 0) = true := by simpa using h2
        clear he h2
        go_enter Tryz.func25, Tryz.ntmps25
        go_wp2_with fail
        refine HC.out.mono ?_; rintro e w1 ⟨rfl, rfl⟩
        go_wp2_with fail
        refine PM.out.mono ?_; rintro e w2 ⟨rfl, hb2⟩
        have y2 := hid (bnext A0.out hb2); clear hb2
        go_wp2_with fail
        go_ret2
        exact ⟨rfl, y2.out⟩
    · rw [if_pos (.inr rfl)]
      clear he h1
      go_enter Tryz.func25, Tryz.ntmps25
      go_wp2_with fail
      refine HC.out.mono ?_; rintro e w1 ⟨rfl, rfl⟩
      go_wp2_with fail
      go_ret2
      exact ⟨rfl, A0.out⟩
set_option maxRecDepth 100000 in
set_option maxHeartbeats 4000000 in
theorem ch_WeightsK (w : World) (v : Value) (us : List Int) (s : ByteArray) (B : Nat) (hv : Row w v (zs us)) (hs : s.size ≤ 100000) (hL : Lay w) (he : cwE us s (B : Nat) = 0) :
    Calls Tryz.prog 25 #[v, .string s, .int .i64 (B : Nat)] w fun e w' => (∃ u, e = .returned (.tuple #[u, .int .i64 0]) ∧ Row w' u (strs (cwT us s B))) ∧ Below w.heap.size w w' := by
  obtain ⟨e1, e2, e3, e4, e5, e6⟩ := cwE_ok he
  obtain ⟨ok, hB200⟩ := base_ok e4 (by omega : B ≤ mbB s)
  obtain ⟨k1, k2, k3, k4, k5, k6⟩ := bPE_parts e4
  have A0 := hid ((Below.refl w.heap.size w).alloc (Nat.le_refl _) (.cells #[.int .i64 (B : Nat)] 3))
  have X0 := hid (Blk.new w #[.int .i64 (B : Nat)] 3)
  have HV := hid hv
  have HL := hid hL
  have PM := hid (ch_MaxBound _ s hs (hL.call A0.out))
  have PP := fun V hV => hid (ch_parts V s hs hV)
  obtain ⟨a, c, rfl, c1, c2, -⟩ := hv.openZ
  have HC := hid (s_ContainsFuncI _ _ us 62 wildB (hv.call A0.out) (by omega) (enters_of Tryz.func62 (by kernel_rfl) rfl) (fun W x => ch_wild W x))
  rw [e3] at HC
  rw [e4] at PM
  rw [if_pos e4, if_pos e4, e4, k1, k2] at PP
  have eT : cwT us s (B : Nat) = us.map fun u => numB (cwN (vQ s).num.natAbs (vQ s).den B u) := by unfold cwT; rw [Int.toNat_natCast]
  rw [eT]
  obtain ⟨n, hn⟩ : ∃ n, (vQ s).num.natAbs = n := ⟨_, rfl⟩
  obtain ⟨d, hd⟩ : ∃ d, (vQ s).den = d := ⟨_, rfl⟩
  obtain ⟨M, hM⟩ : ∃ M, mbB s = M := ⟨_, rfl⟩
  obtain ⟨N, hN⟩ : ∃ N, us.length = N := ⟨_, rfl⟩
  rw [hn, hd] at PP ok ⊢
  rw [hn] at k5
  rw [hd] at k6
  rw [hM] at PM e6
  rw [hN] at HC c1 e1 e2 HV ⊢
  have HN := hid hN; have HOK := hid ok
  obtain ⟨Tn, hTn⟩ : ∃ s, numB n = s := ⟨_, rfl⟩
  obtain ⟨Td, hTd⟩ : ∃ s, numB d = s := ⟨_, rfl⟩
  have HTn := hid hTn; have HTd := hid hTd
  rw [hTn, hTd] at PP
  have q1 : ((N : Int) == 0) = false := by rw [beq_eq_false_iff_ne]; omega
  have q2 : decide ((64 : Int) < (N : Int)) = false := by simp; omega
  have q3 : decide ((B : Int) < 0) = false := by simp
  have q4 : decide ((M : Int) < (B : Int)) = false := by simp; omega
  have q5 : decide (M < B) = false := by simp; omega
  have E2 := hid e2
  have r0 := X0.out.cell 0
  simp at r0
  have hmm := @run_makeMap Tryz.prog
  clear hv hL he e1 e2 e3 e4 e5 e6 k1 k2 k3 k4 eT hn hd hM hN hTn hTd ok
  go_enter Tryz.func25, Tryz.ntmps25
  go_wp2_with fail
  refine HC.out.mono ?_; rintro e w1 ⟨rfl, rfl⟩
  go_wp2_with fail
  refine PM.out.mono ?_; rintro e w2 ⟨rfl, hb2⟩
  have y2 := hid (bnext A0.out hb2)
  have X2 := hid (X0.out.call hb2)
  have r2 := X2.out.cell 0
  simp at r2
  clear hb2
  go_wp2_with fail
  refine (PP _ (HL.out.call y2.out)).out.mono ?_; rintro e w3 ⟨rfl, hb3⟩
  have y3 := hid (bnext y2.out hb3)
  have X3 := hid (X2.out.call hb3)
  clear hb3 r0 r2
  have cb := X3.out.cell 0
  have hz : w.heap.size < w3.heap.size := X3.out.lt
  obtain ⟨t1, t2, t3⟩ := wt_made w3 n d B w.heap.size cb
  rw [HTn.out, HTd.out] at t1 t2 t3
  have L3 := HL.out.call y3.out
  have LT := LayLt.mono HL.out.lt (Nat.le_of_lt hz)
  have L6 := L3.call t2
  obtain ⟨W, hW⟩ : ∃ W, wtW w3 Tn Td = W := ⟨_, rfl⟩
  rw [hW] at t1 t2 t3 L6
  have HE := hid (ch_each W (.slice a N c) us 65 #[.pointer (some ⟨w.heap.size, 0, none⟩), .pointer (some ⟨w3.heap.size + 1 + 1 + 1 + 1, 0, none⟩), .pointer (some ⟨w3.heap.size + 1 + 1 + 1 + 1 + 1, 0, none⟩)] (fun u => numB (cwN n d B u))
    (fun i V => i ≤ N ∧ WtI V w.heap.size (w3.heap.size + 1 + 1 + 1 + 1) (w3.heap.size + 1 + 1 + 1 + 1 + 1) (w3.heap.size + 1) (w3.heap.size + 1 + 1 + 1) w3.heap.size (w3.heap.size + 1 + 1) n d B i ∧ Lay V) w3.heap.size (w3.heap.size + 1 + 1)
    (fun V hV => HV.out.call (hV.below (bnext y3.out t2) (Nat.le_of_lt hz) (by omega))) (by rw [HN.out]; have := E2.out; omega) (enters_of Tryz.func65 (by kernel_rfl) rfl)
    (fun V i x hx hI => by
      have hiN : i < N := by rw [← HN.out]; exact (List.getElem?_eq_some_iff.1 hx).1
      have l1 : w3.heap.size ≤ V.heap.size := by obtain ⟨D, o, -⟩ := hI.2.1.pn.ex; exact Nat.le_of_lt o.lt
      have l2 : w3.heap.size + 1 + 1 ≤ V.heap.size := by obtain ⟨D, o, -⟩ := hI.2.1.pd.ex; exact Nat.le_of_lt o.lt
      refine (ch_W2 V _ _ _ _ _ _ _ n d B i x hI.2.1 ⟨by omega, by omega, by omega, by omega, by omega, by omega, by omega, by omega, by omega, by omega, by omega⟩ HOK.out k5 k6 (by have := E2.out; omega) (by omega) hI.2.2 LT (LT.mono (by omega))).mono ?_
      rintro e w' ⟨he, hI', hK'⟩
      exact ⟨he, ⟨by omega, hI', hI.2.2.kp2 hK' LT (LT.mono (by omega)) l1 l2⟩, hK'⟩)
    ⟨Nat.zero_le _, t1, L6⟩
    (fun i V V' hI hb => ⟨hI.1, hI.2.1.low hb (by omega) (by omega) (by omega) (by omega) (by omega) (by omega) (by omega), hI.2.2.below hb (LT.mono (by omega))⟩) (by omega) (by omega))
  have HW := hid hW; have T2 := hid (bnext y3.out t2); have HZ := hid hz
  clear t1 t2 t3 L3 LT L6 hW cb hz
  go_wp2_with fail
  have hW := HW.out
  unfold wtW at hW
  rw [hW]
  refine HE.out.mono ?_; rintro e w7 ⟨⟨u, rfl, hu⟩, hK⟩
  have K7 : Hid (Below w.heap.size w w7) := hK.below T2.out (Nat.le_of_lt HZ.out) (by have := HZ.out; omega)
  obtain ⟨a7, c7, rfl, -, -, -⟩ := hu.openS
  rw [List.length_map] at hu ⊢
  have U7 := hid hu
  clear hu hK hW
  go_wp2_with fail
  go_ret2
  exact ⟨⟨_, rfl, U7.out⟩, K7.out⟩
theorem ch_Weights (w : World) (v : Value) (us : List Int) (s : ByteArray) (B : Int) (hv : Row w v (zs us)) (hs : s.size ≤ 100000) (hL : Lay w) :
    Calls Tryz.prog 25 #[v, .string s, .int .i64 B] w fun e w' => (∃ u, e = .returned (.tuple #[u, .int .i64 (cwE us s B)]) ∧ Row w' u (strs (cwR us s B))) ∧ Below w.heap.size w w' := by
  by_cases he : cwE us s B = 0
  · obtain ⟨-, -, -, -, h5, -⟩ := cwE_ok he
    obtain ⟨b, rfl⟩ : ∃ b : Nat, B = b := ⟨B.toNat, by omega⟩
    rw [cwR, if_pos he, he]
    exact ch_WeightsK w v us s b hv hs hL he
  · rw [cwR, if_neg he]
    refine (ch_WeightsE w v us s B hv hs hL he).mono ?_
    rintro e w' ⟨rfl, hb⟩
    exact ⟨⟨_, rfl, Row.nil _⟩, hb⟩
end Go.Proofs.YtpehhgkghgbhiaaGreatDoor
namespace Go.Proofs.YtpehhgkghgbhiaaGreatDoor
open Go.RowKit Go.Shelf Go.Maps
open Go.Lib (decDigits nDigits)
set_option linter.unusedVariables false
set_option linter.unusedSimpArgs false
/-- The error of a law. -/
def lawE (l : List ByteArray) (n : Int) : Int := if wsE l ≠ 0 then wsE l else if n < 0 ∨ 256 < n then 2 else 0
set_option maxRecDepth 100000 in
set_option maxHeartbeats 1000000 in
theorem p_lawE (w : World) (v : Value) (l : List ByteArray) (n : Int) (hv : Row w v (strs l)) (hl : ∀ x ∈ l, x.size ≤ 1000000) (he : lawE l n ≠ 0) :
    Calls Tryz.prog 87 #[v, .int .i64 n] w fun e w' => e = .returned (.tuple #[.map none, .int .i64 (lawE l n)]) ∧ Below w.heap.size w w' := by
  have PC := hid (p_check w v l hv hl)
  obtain ⟨a, c, rfl, q1, q2, -⟩ := hv.openS
  obtain ⟨N, hN⟩ : ∃ N, l.length = N := ⟨_, rfl⟩
  rw [hN] at PC q1 ⊢
  clear hv hl hN
  by_cases h1 : wsE l ≠ 0
  · have e1 : lawE l n = wsE l := by rw [lawE, if_pos h1]
    rw [e1]
    obtain ⟨z, hz⟩ : ∃ z, wsE l = z := ⟨_, rfl⟩
    rw [hz] at PC h1 ⊢
    have q0 : (z != 0) = true := by simpa using h1
    clear e1 he hz h1
    go_enter Tryz.func87, Tryz.ntmps87
    go_wp2_with fail
    refine PC.out.mono ?_; rintro e w1 ⟨rfl, hb1⟩
    go_wp2_with fail
    go_ret2
    exact ⟨rfl, hb1⟩
  · have h2 : wsE l = 0 := by simpa using h1
    have h3 : n < 0 ∨ 256 < n := by
      by_cases h3 : n < 0 ∨ 256 < n
      · exact h3
      · exact absurd (show lawE l n = 0 by rw [lawE, if_neg h1, if_neg h3]) he
    have e1 : lawE l n = 2 := by rw [lawE, if_neg h1, if_pos h3]
    rw [e1]
    rw [h2] at PC
    clear e1 he h1 h2
    by_cases h4 : n < 0
    · have q0 : decide (n < 0) = true := by simpa using h4
      clear h3 h4
      go_enter Tryz.func87, Tryz.ntmps87
      go_wp2_with fail
      refine PC.out.mono ?_; rintro e w1 ⟨rfl, hb1⟩
      go_wp2_with fail
      go_ret2
      exact ⟨rfl, hb1⟩
    · have q0 : decide (n < 0) = false := by simpa using h4
      have q1 : decide (256 < n) = true := by simp; omega
      clear h3 h4
      go_enter Tryz.func87, Tryz.ntmps87
      go_wp2_with fail
      refine PC.out.mono ?_; rintro e w1 ⟨rfl, hb1⟩
      go_wp2_with fail
      go_ret2
      exact ⟨rfl, hb1⟩
set_option maxRecDepth 100000 in
set_option maxHeartbeats 1000000 in
theorem p_listed_nil (w : World) :
    Calls Tryz.prog 79 #[.map none] w fun e w' => e = .returned (.slice none 0 0) ∧ Below w.heap.size w w' := by
  have HK := hid (callsIn_wide.1 (Tryz.maps_keys none w))
  have HS := hid (callsIn_wide.1 (Tryz.sorted_keys_nil w))
  go_enter Tryz.func79, Tryz.ntmps79
  go_wp2_with fail
  refine HK.out.mono ?_; rintro e w1 ⟨rfl, rfl⟩
  go_wp2_with fail
  refine HS.out.mono ?_; rintro e w2 ⟨v, ss, rfl, rfl, hown2, hnil, hb⟩
  obtain rfl := hnil.2 rfl
  have hB : Below w.heap.size w w2 := ((Below.refl _ _).alloc (Nat.le_refl _) _).trans (hb.mono (by simp))
  have HB := hid hB
  clear hown2 hnil hb hB
  go_wp2_with fail
  refine wp_loop_rounds 1 ?_; rw [rounds_succ]
  go_wp2_with fail
  go_ret
  exact ⟨rfl, HB.out⟩
/-- The law's distribution. -/
def lawR (l : List ByteArray) (n : Int) : List (ByteArray × ByteArray) := if lawE l n = 0 then sortM (lawP (l.map bN) (2 ^ n.toNat) l.length) else []
theorem lawE_ok {l : List ByteArray} {n : Int} (h : lawE l n = 0) : wsE l = 0 ∧ 0 ≤ n ∧ n ≤ 256 := by
  unfold lawE at h
  split at h
  · rename_i h1; exact absurd h h1
  · rename_i h1
    split at h
    · exact absurd h (by decide)
    · rename_i h2; exact ⟨by simpa using h1, by omega, by omega⟩
theorem lawP_keys {ws : List Nat} {t N : Nat} (hN : N ≤ 64) : ∀ p ∈ lawP ws t N, (keyL p).length ≤ 1000 := by
  intro p hp
  have h1 : ∀ p ∈ lawL ws t N, (keyL p).length ≤ 1000 := fun p hp => by
    obtain ⟨i, h1, -, rfl⟩ := lawL_mem.1 hp
    have := nDigits_le (n := i) (k := 2) (by omega) (by omega)
    simp only [keyL, numB_list, Lib.decDigits_length]
    omega
  unfold lawP at hp
  split at hp
  · exact h1 p hp
  · rcases List.mem_append.1 hp with hp | hp
    · exact h1 p hp
    · simp at hp
      subst hp
      have this : lateB.data.toList.length ≤ 1000 := by decide
      exact this
set_option maxRecDepth 100000 in
set_option maxHeartbeats 1000000 in
theorem p_Law (w : World) (v : Value) (l : List ByteArray) (n : Int) (hv : Row w v (strs l)) (hl : ∀ x ∈ l, x.size ≤ 1000000) (hL : Lay w) :
    Calls Tryz.prog 52 #[v, .int .i64 n] w fun e w' => (∃ u, e = .returned (.tuple #[u, .int .i64 (lawE l n)]) ∧ MRow w' u (lawR l n)) ∧ Below w.heap.size w w' := by
  by_cases he : lawE l n = 0
  · obtain ⟨h1, h2, h3⟩ := lawE_ok he
    obtain ⟨m, rfl⟩ : ∃ m : Nat, n = (m : Nat) := ⟨n.toNat, by omega⟩
    have P := hid (p_law (H := Unit) w v l m hv hl h1 (by omega) hL)
    have hlen := (wsE_ok h1).2.1.len
    rw [List.length_map] at hlen
    have er : lawR l (m : Nat) = sortM (lawP (l.map bN) (2 ^ m) l.length) := by rw [lawR, if_pos he, Int.toNat_natCast]
    rw [er, he]
    obtain ⟨ws, hws⟩ : ∃ ws, l.map bN = ws := ⟨_, rfl⟩
    obtain ⟨N, hN⟩ : ∃ N, l.length = N := ⟨_, rfl⟩
    rw [hws, hN] at P ⊢
    have hN64 : N ≤ 64 := by omega
    obtain ⟨a, c, rfl, -⟩ := hv.openS
    have K := hid (lawP_keys (ws := ws) (t := 2 ^ m) hN64)
    clear hv hl hL h1 h2 h3 hlen er he hws hN
    go_enter Tryz.func52, Tryz.ntmps52
    go_wp2_with fail
    refine P.out.mono ?_; rintro e w1 ⟨⟨B, rfl, hown⟩, hb1⟩
    have y1 := hid hb1
    have Q := hid (p_listed w1 B _ _ _ hown (reads_lawM ws (2 ^ m) N) (by have := lawP_length ws (2 ^ m) N; omega) K.out)
    clear hown hb1
    go_wp2_with fail
    refine Q.out.mono ?_; rintro e w2 ⟨⟨u, rfl, hu⟩, hb2⟩
    have hu2 := hid hu
    have y2 := hid (bnext y1.out hb2)
    clear hu hb2
    go_wp2_with fail
    go_ret2
    exact ⟨⟨_, rfl, hu2.out⟩, y2.out⟩
  · have P := hid (p_lawE w v l n hv hl he)
    have er : lawR l n = [] := by rw [lawR, if_neg he]
    rw [er]
    obtain ⟨a, c, rfl, -⟩ := hv.openS
    generalize lawE l n = z at *
    clear hv hl hL er he
    go_enter Tryz.func52, Tryz.ntmps52
    go_wp2_with fail
    refine P.out.mono ?_; rintro e w1 ⟨rfl, hb1⟩
    have y1 := hid hb1
    have Q := hid (p_listed_nil w1)
    clear hb1
    go_wp2_with fail
    refine Q.out.mono ?_; rintro e w2 ⟨rfl, hb2⟩
    have y2 := hid (bnext y1.out hb2)
    clear hb2
    go_wp2_with fail
    go_ret2
    exact ⟨⟨_, rfl, MRow.nil _⟩, y2.out⟩
theorem shB_zero (t : Nat) : shB 0 t = ⟨#[48]⟩ := by
  have e : qmk false 0 t = 0 := by unfold qmk sgn; simp
  have h1 : ¬ ovQ 0 := by
    have : nDigits 0 ≤ 4000 := by rw [nDigits_zero]; omega
    have : nDigits 1 ≤ 4000 := by rw [nDigits_one]; omega
    unfold ovQ
    rw [show (0 : Rat).num.natAbs = 0 from rfl, show (0 : Rat).den = 1 from rfl]
    omega
  unfold shB
  rw [e]
  unfold outB
  rw [if_neg h1]
  apply ba_ext
  rw [txQ, txB_list, show (0 : Rat).num.natAbs = 0 from rfl, show (0 : Rat).den = 1 from rfl, show decide ((0 : Rat).num < 0) = false from rfl, dec_zero]
  rfl
theorem lawP_late {ws : List Nat} {t N : Nat} : (t - lwS ws t N ≠ 0 → (lateB, shB (t - lwS ws t N) t) ∈ lawP ws t N) ∧ (t - lwS ws t N = 0 → ∀ p ∈ lawP ws t N, p.1 ≠ lateB) := by
  constructor
  · intro h
    rw [lawP, if_neg h]
    simp
  · intro h p hp e
    rw [lawP, if_pos h] at hp
    obtain ⟨i, -, -, rfl⟩ := lawL_mem.1 hp
    exact numB_late i (congrArg (fun b => b.data.toList) e)
end Go.Proofs.YtpehhgkghgbhiaaGreatDoor
