/- The walk of the law SchedActs. -/
import Derived.Test.YtjpkglgbcflbnaaActsMath
import Derived.Test.YtjpkglgbcflbnaaRefWait
import Derived.Deep.RegionHeld3
import Derived.Deep.DeepCutAuto
import Derived.Deep.DrawnRows
namespace Go.Proofs.Ytjpkglgbcflbnaa
open Go.RowKit
attribute [local go_sem ↓] Go.wp_at_zero Go.wp_at_succ

theorem acts_long (s : Int) (a : Option Addr) (n c : Nat) (w : World) (hn : 60 < n) (hm : n ≤ maxLen) : Calls Try.prog 8 #[.int .i64 s, .slice a n c] w fun e w' => e = .returned (.bool true) ∧ Below w.heap.size w w' := by
  unfold maxLen at hm
  go_enter Try.func8, Try.ntmps8
  go_wp2_with fail
  refine (awake_any w).mono ?_; rintro e w1 ⟨rfl, hb⟩
  go_wp2_with fail
  go_ret
  exact ⟨rfl, hb⟩

theorem acts_bad (s : Int) (a : Option Addr) (n c : Nat) (w : World) (hn : n ≤ 60) (hs : ¬ (1 ≤ s ∧ s ≤ 1000000)) : Calls Try.prog 8 #[.int .i64 s, .slice a n c] w fun e w' => e = .returned (.bool true) ∧ Below w.heap.size w w' := by
  have HS := hid hs; clear hs
  have q0 : decide (60 < (n : Int)) = false := by simp; omega
  go_enter Try.func8, Try.ntmps8
  go_wp2_with fail
  refine (new_bad w s HS.out).mono ?_; rintro e w1 ⟨rfl, hb⟩
  have B1 := hid hb; clear hb
  go_wp2_with fail
  refine (rnew_bad w1 s HS.out).mono ?_; rintro e w2 ⟨rfl, rfl⟩
  go_wp2_with fail
  refine wp_loop_rounds 1 ?_
  rw [rounds_succ]
  go_wp2_with fail
  refine (awake_any _).mono ?_; rintro e w3 ⟨rfl, hb3⟩
  go_wp2_with fail
  go_ret
  exact ⟨rfl, B1.out.trans (hb3.mono B1.out.size)⟩

set_option maxRecDepth 100000 in
set_option maxHeartbeats 4000000 in
theorem acts_any (s : Int) (a : Option Addr) (n c : Nat) (K T N S : Nat → Int) (w : World) (hn : n ≤ 60) (hs : 1 ≤ s ∧ s ≤ 1000000) (hA : ReadsA w a n K T N S) : Calls Try.prog 8 #[.int .i64 s, .slice a n c] w fun e w' => e = .returned (.bool true) ∧ Below w.heap.size w w' := by
  have HS := hid hs; clear hs
  have HA := hid hA; clear hA
  have q0 : decide (60 < (n : Int)) = false := by simp; omega
  go_enter Try.func8, Try.ntmps8
  go_wp2_with fail
  refine (new_ok w s HS.out).mono ?_; rintro e w1 ⟨b1, rfl, hb1, hq1, hB1⟩
  have B1 := hid hB1; have Q1 := hid hq1; clear hB1 hq1
  go_wp2_with fail
  refine (rnew_ok w1 s HS.out).mono ?_; rintro e w2 ⟨d1, rfl, hd1, ho1, hB2⟩
  have P1 := hid (show PP w w2 b1 none d1 none s [] [] from ⟨Q1.out.call hB2, ho1, B1.out.trans (hB2.mono B1.out.size), hb1, by simp, Nat.le_trans B1.out.size hd1, by simp, by have := Q1.out.lt; omega, by simp, by simp, by simp⟩)
  clear B1 Q1 ho1 hB2 hb1 hd1 q0
  go_wp2_with fail
  go_loopw [5, 7, 9] (fun u v i wr => ∃ (b : Nat) (r : Option Nat) (d : Nat) (t : Option Nat) (l : List Tk) (k : Nat), u = .pointer (some ⟨b, 0, none⟩) ∧ v = .pointer (some ⟨d, 0, none⟩) ∧ i = .int .i64 k ∧ k ≤ n ∧ l.length ≤ k ∧ Hid (PP w wr b r d t s l l))
    (fun _ _ i _ => n - (intOf i).toNat)
  case atStart => exact ⟨b1, none, d1, none, [], 0, rfl, rfl, rfl, Nat.zero_le _, Nat.le_refl _, P1⟩
  case round =>
    obtain ⟨b, r, d, t, l, k, rfl, rfl, rfl, hkn, hlk, hP⟩ := hrel
    by_cases hin : k < n
    · obtain ⟨g, o, rfl, hg, e0, e1, e2, e3⟩ := HA.out k hin
      have c0 := (hP.out.below.cell (p := ⟨g, o + k * 4, none⟩) hg).trans e0
      have c1 := (hP.out.below.cell (p := ⟨g, o + k * 4 + 1, none⟩) hg).trans e1
      have c2 := (hP.out.below.cell (p := ⟨g, o + k * 4 + 2, none⟩) hg).trans e2
      have c3 := (hP.out.below.cell (p := ⟨g, o + k * 4 + 3, none⟩) hg).trans e3
      clear e0 e1 e2 e3
      obtain ⟨ki, hki⟩ : ∃ x, K k = x := ⟨_, rfl⟩
      obtain ⟨ti, hti⟩ : ∃ x, T k = x := ⟨_, rfl⟩
      obtain ⟨ni, hni⟩ : ∃ x, N k = x := ⟨_, rfl⟩
      obtain ⟨si, hsi⟩ : ∃ x, S k = x := ⟨_, rfl⟩
      rw [hki] at c0; rw [hti] at c1; rw [hni] at c2; rw [hsi] at c3
      clear hki hti hni hsi
      have hlk9 : l.length < 900 := by omega
      have BX := hid (Blk.new wr #[.int .i64 ki, .int .i64 ti, .int .i64 ni, .int .i64 si] 28)
      have hbx : b < wr.heap.size := hP.out.q.lt
      have hrx := hid hP.out.q.rlt
      have hlx := hid hlk
      have hl2 : l.length ≤ k + 1 := by omega
      by_cases hk5 : ki = 0 ∨ ki = 1 ∨ ki = 2 ∨ ki = 3 ∨ ki = 4
      · rcases hk5 with rfl | rfl | rfl | rfl | rfl
        · by_cases hbad : ti < 0 ∨ ¬ relOk s ni si
          · have HB := hid hbad; clear hbad
            go_wp2_with fail
            refine (add_range _ _ _ _ _ (hP.out.call ((Below.refl _ _).alloc (Nat.le_refl _) _)).q ti ni si HB.out).mono ?_; rintro e w4 ⟨rfl, hb4⟩
            have HP4 := hid ((hP.out.call ((Below.refl _ _).alloc (Nat.le_refl _) _)).call hb4); have BX4 := hid (BX.out.call hb4)
            have d1 := BX4.out.cell 1; have d2 := BX4.out.cell 2; have d3 := BX4.out.cell 3; simp at d1 d2 d3; clear hb4
            go_wp2_with fail
            refine (radd_range _ _ _ _ _ HP4.out.o ti ni si HB.out).mono ?_; rintro e w5 ⟨rfl, rfl⟩
            have HP2 := HP4; clear d1 d2 d3
            go_wp2_with fail
            refine (next_any _ _ _ _ _ HP2.out.q).mono ?_; rintro e w7 ⟨rfl, rfl⟩
            go_wp2_with fail
            refine (rnext_any _ _ _ _ _ HP2.out.o).mono ?_; rintro e w7 ⟨rfl, rfl⟩
            go_wp2_with fail
            refine (wait_any _ _ _ _ _ HP2.out.q).mono ?_; rintro e w8 ⟨v8, rfl, hi8, hb8⟩
            have HI8 := hid hi8; have HP8 := hid (HP2.out.call hb8); clear hi8 hb8
            go_wp2_with fail
            refine (rwait_any _ _ _ _ _ HP8.out.o).mono ?_; rintro e w9 ⟨v9, rfl, hi9, hb9⟩
            have HI9 := hid hi9; have HP9 := hid (HP8.out.call hb9); have HI8' := hid (HI8.out.call hb9); clear hi9 hb9
            go_wp2_with fail
            refine (same_any _ v8 v9 _ _ HI8'.out HI9.out).mono ?_; rintro e w10 ⟨rfl, hb10⟩
            have HP10 := hid (HP9.out.call hb10); clear hb10
            rw [beq_self_eq_true]
            go_wp2_with fail
            go_roundw
            case rel => exact ⟨_, _, _, _, _, k + 1, rfl, rfl, by go_num, by omega, hl2, HP10⟩
            case measure => simp [intOf]; omega
          · have ht : 0 ≤ ti := by omega
            have HR := hid (show relOk s ni si from Classical.byContradiction fun h => hbad (.inr h)); clear hbad
            cases hd : hasL l ti with
            | true =>
              have HD := hid hd; clear hd
              go_wp2_with fail
              refine (add_dup _ _ _ _ _ (hP.out.call ((Below.refl _ _).alloc (Nat.le_refl _) _)).q ti ni si ht HR.out HD.out).mono ?_; rintro e w4 ⟨rfl, hb4⟩
              have HP4 := hid ((hP.out.call ((Below.refl _ _).alloc (Nat.le_refl _) _)).call hb4); have BX4 := hid (BX.out.call hb4)
              have d1 := BX4.out.cell 1; have d2 := BX4.out.cell 2; have d3 := BX4.out.cell 3; simp at d1 d2 d3; clear hb4
              go_wp2_with fail
              refine (radd_any _ _ _ _ _ HP4.out.o HP4.out.q.sorted hlk9 ti ni si ht HR.out).mono ?_; rintro e w5 (⟨_, rfl, hb5⟩ | ⟨hno, _⟩)
              · have HP2 := hid (HP4.out.call hb5); clear d1 d2 d3 hb5
                go_wp2_with fail
                refine (next_any _ _ _ _ _ HP2.out.q).mono ?_; rintro e w7 ⟨rfl, rfl⟩
                go_wp2_with fail
                refine (rnext_any _ _ _ _ _ HP2.out.o).mono ?_; rintro e w7 ⟨rfl, rfl⟩
                go_wp2_with fail
                refine (wait_any _ _ _ _ _ HP2.out.q).mono ?_; rintro e w8 ⟨v8, rfl, hi8, hb8⟩
                have HI8 := hid hi8; have HP8 := hid (HP2.out.call hb8); clear hi8 hb8
                go_wp2_with fail
                refine (rwait_any _ _ _ _ _ HP8.out.o).mono ?_; rintro e w9 ⟨v9, rfl, hi9, hb9⟩
                have HI9 := hid hi9; have HP9 := hid (HP8.out.call hb9); have HI8' := hid (HI8.out.call hb9); clear hi9 hb9
                go_wp2_with fail
                refine (same_any _ v8 v9 _ _ HI8'.out HI9.out).mono ?_; rintro e w10 ⟨rfl, hb10⟩
                have HP10 := hid (HP9.out.call hb10); clear hb10
                rw [beq_self_eq_true]
                go_wp2_with fail
                go_roundw
                case rel => exact ⟨_, _, _, _, _, k + 1, rfl, rfl, by go_num, by omega, hl2, HP10⟩
                case measure => simp [intOf]; omega
              · rw [HD.out] at hno; cases hno
            | false =>
              have HD := hid hd; clear hd
              go_wp2_with fail
              refine (add_new _ _ _ _ _ (hP.out.call ((Below.refl _ _).alloc (Nat.le_refl _) _)).q hlk9 ti ni si ht HR.out HD.out).mono ?_; rintro e w4 ⟨rfl, r4, hq4, hk4, hr4⟩
              have HP4 := hid ((hP.out.call ((Below.refl _ _).alloc (Nat.le_refl _) _)).stepQ hk4 hq4 hr4); have BX4 := hid (hk4.blk BX.out (by omega) (fun e => by have := hrx.out _ e.symm; omega))
              have d1 := BX4.out.cell 1; have d2 := BX4.out.cell 2; have d3 := BX4.out.cell 3; simp at d1 d2 d3; clear hq4 hk4 hr4
              have HS4 := hid hP.out.q.sorted
              go_wp2_with fail
              refine (radd_any _ _ _ _ _ HP4.out.o HS4.out hlk9 ti ni si ht HR.out).mono ?_; rintro e w5 (⟨hno, _⟩ | ⟨_, rfl, t5, ho5, hk5, ht5⟩)
              · rw [HD.out] at hno; cases hno
              · have HP2 := hid (HP4.out.stepO hk5 ho5 ht5); clear d1 d2 d3 ho5 hk5 ht5
                have hl2 : (ins (relT s ni si, ti) l).length ≤ k + 1 := by rw [ins_length]; omega
                go_wp2_with fail
                refine (next_any _ _ _ _ _ HP2.out.q).mono ?_; rintro e w7 ⟨rfl, rfl⟩
                go_wp2_with fail
                refine (rnext_any _ _ _ _ _ HP2.out.o).mono ?_; rintro e w7 ⟨rfl, rfl⟩
                go_wp2_with fail
                refine (wait_any _ _ _ _ _ HP2.out.q).mono ?_; rintro e w8 ⟨v8, rfl, hi8, hb8⟩
                have HI8 := hid hi8; have HP8 := hid (HP2.out.call hb8); clear hi8 hb8
                go_wp2_with fail
                refine (rwait_any _ _ _ _ _ HP8.out.o).mono ?_; rintro e w9 ⟨v9, rfl, hi9, hb9⟩
                have HI9 := hid hi9; have HP9 := hid (HP8.out.call hb9); have HI8' := hid (HI8.out.call hb9); clear hi9 hb9
                go_wp2_with fail
                refine (same_any _ v8 v9 _ _ HI8'.out HI9.out).mono ?_; rintro e w10 ⟨rfl, hb10⟩
                have HP10 := hid (HP9.out.call hb10); clear hb10
                rw [beq_self_eq_true]
                go_wp2_with fail
                go_roundw
                case rel => exact ⟨_, _, _, _, _, k + 1, rfl, rfl, by go_num, by omega, hl2, HP10⟩
                case measure => simp [intOf]; omega
        · by_cases hbad : ti < 0 ∨ ¬ relOk s ni si
          · have HB := hid hbad; clear hbad
            go_wp2_with fail
            refine (add_range _ _ _ _ _ (hP.out.call ((Below.refl _ _).alloc (Nat.le_refl _) _)).q ti ni si HB.out).mono ?_; rintro e w4 ⟨rfl, hb4⟩
            have HP4 := hid ((hP.out.call ((Below.refl _ _).alloc (Nat.le_refl _) _)).call hb4); have BX4 := hid (BX.out.call hb4)
            have d1 := BX4.out.cell 1; have d2 := BX4.out.cell 2; have d3 := BX4.out.cell 3; simp at d1 d2 d3; clear hb4
            go_wp2_with fail
            refine (radd_range _ _ _ _ _ HP4.out.o ti ni si HB.out).mono ?_; rintro e w5 ⟨rfl, rfl⟩
            have HP2 := HP4; clear d1 d2 d3
            go_wp2_with fail
            refine (next_any _ _ _ _ _ HP2.out.q).mono ?_; rintro e w7 ⟨rfl, rfl⟩
            go_wp2_with fail
            refine (rnext_any _ _ _ _ _ HP2.out.o).mono ?_; rintro e w7 ⟨rfl, rfl⟩
            go_wp2_with fail
            refine (wait_any _ _ _ _ _ HP2.out.q).mono ?_; rintro e w8 ⟨v8, rfl, hi8, hb8⟩
            have HI8 := hid hi8; have HP8 := hid (HP2.out.call hb8); clear hi8 hb8
            go_wp2_with fail
            refine (rwait_any _ _ _ _ _ HP8.out.o).mono ?_; rintro e w9 ⟨v9, rfl, hi9, hb9⟩
            have HI9 := hid hi9; have HP9 := hid (HP8.out.call hb9); have HI8' := hid (HI8.out.call hb9); clear hi9 hb9
            go_wp2_with fail
            refine (same_any _ v8 v9 _ _ HI8'.out HI9.out).mono ?_; rintro e w10 ⟨rfl, hb10⟩
            have HP10 := hid (HP9.out.call hb10); clear hb10
            rw [beq_self_eq_true]
            go_wp2_with fail
            go_roundw
            case rel => exact ⟨_, _, _, _, _, k + 1, rfl, rfl, by go_num, by omega, hl2, HP10⟩
            case measure => simp [intOf]; omega
          · have ht : 0 ≤ ti := by omega
            have HR := hid (show relOk s ni si from Classical.byContradiction fun h => hbad (.inr h)); clear hbad
            cases hd : hasL l ti with
            | true =>
              have HD := hid hd; clear hd
              go_wp2_with fail
              refine (add_dup _ _ _ _ _ (hP.out.call ((Below.refl _ _).alloc (Nat.le_refl _) _)).q ti ni si ht HR.out HD.out).mono ?_; rintro e w4 ⟨rfl, hb4⟩
              have HP4 := hid ((hP.out.call ((Below.refl _ _).alloc (Nat.le_refl _) _)).call hb4); have BX4 := hid (BX.out.call hb4)
              have d1 := BX4.out.cell 1; have d2 := BX4.out.cell 2; have d3 := BX4.out.cell 3; simp at d1 d2 d3; clear hb4
              go_wp2_with fail
              refine (radd_any _ _ _ _ _ HP4.out.o HP4.out.q.sorted hlk9 ti ni si ht HR.out).mono ?_; rintro e w5 (⟨_, rfl, hb5⟩ | ⟨hno, _⟩)
              · have HP2 := hid (HP4.out.call hb5); clear d1 d2 d3 hb5
                go_wp2_with fail
                refine (next_any _ _ _ _ _ HP2.out.q).mono ?_; rintro e w7 ⟨rfl, rfl⟩
                go_wp2_with fail
                refine (rnext_any _ _ _ _ _ HP2.out.o).mono ?_; rintro e w7 ⟨rfl, rfl⟩
                go_wp2_with fail
                refine (wait_any _ _ _ _ _ HP2.out.q).mono ?_; rintro e w8 ⟨v8, rfl, hi8, hb8⟩
                have HI8 := hid hi8; have HP8 := hid (HP2.out.call hb8); clear hi8 hb8
                go_wp2_with fail
                refine (rwait_any _ _ _ _ _ HP8.out.o).mono ?_; rintro e w9 ⟨v9, rfl, hi9, hb9⟩
                have HI9 := hid hi9; have HP9 := hid (HP8.out.call hb9); have HI8' := hid (HI8.out.call hb9); clear hi9 hb9
                go_wp2_with fail
                refine (same_any _ v8 v9 _ _ HI8'.out HI9.out).mono ?_; rintro e w10 ⟨rfl, hb10⟩
                have HP10 := hid (HP9.out.call hb10); clear hb10
                rw [beq_self_eq_true]
                go_wp2_with fail
                go_roundw
                case rel => exact ⟨_, _, _, _, _, k + 1, rfl, rfl, by go_num, by omega, hl2, HP10⟩
                case measure => simp [intOf]; omega
              · rw [HD.out] at hno; cases hno
            | false =>
              have HD := hid hd; clear hd
              go_wp2_with fail
              refine (add_new _ _ _ _ _ (hP.out.call ((Below.refl _ _).alloc (Nat.le_refl _) _)).q hlk9 ti ni si ht HR.out HD.out).mono ?_; rintro e w4 ⟨rfl, r4, hq4, hk4, hr4⟩
              have HP4 := hid ((hP.out.call ((Below.refl _ _).alloc (Nat.le_refl _) _)).stepQ hk4 hq4 hr4); have BX4 := hid (hk4.blk BX.out (by omega) (fun e => by have := hrx.out _ e.symm; omega))
              have d1 := BX4.out.cell 1; have d2 := BX4.out.cell 2; have d3 := BX4.out.cell 3; simp at d1 d2 d3; clear hq4 hk4 hr4
              have HS4 := hid hP.out.q.sorted
              go_wp2_with fail
              refine (radd_any _ _ _ _ _ HP4.out.o HS4.out hlk9 ti ni si ht HR.out).mono ?_; rintro e w5 (⟨hno, _⟩ | ⟨_, rfl, t5, ho5, hk5, ht5⟩)
              · rw [HD.out] at hno; cases hno
              · have HP2 := hid (HP4.out.stepO hk5 ho5 ht5); clear d1 d2 d3 ho5 hk5 ht5
                have hl2 : (ins (relT s ni si, ti) l).length ≤ k + 1 := by rw [ins_length]; omega
                go_wp2_with fail
                refine (next_any _ _ _ _ _ HP2.out.q).mono ?_; rintro e w7 ⟨rfl, rfl⟩
                go_wp2_with fail
                refine (rnext_any _ _ _ _ _ HP2.out.o).mono ?_; rintro e w7 ⟨rfl, rfl⟩
                go_wp2_with fail
                refine (wait_any _ _ _ _ _ HP2.out.q).mono ?_; rintro e w8 ⟨v8, rfl, hi8, hb8⟩
                have HI8 := hid hi8; have HP8 := hid (HP2.out.call hb8); clear hi8 hb8
                go_wp2_with fail
                refine (rwait_any _ _ _ _ _ HP8.out.o).mono ?_; rintro e w9 ⟨v9, rfl, hi9, hb9⟩
                have HI9 := hid hi9; have HP9 := hid (HP8.out.call hb9); have HI8' := hid (HI8.out.call hb9); clear hi9 hb9
                go_wp2_with fail
                refine (same_any _ v8 v9 _ _ HI8'.out HI9.out).mono ?_; rintro e w10 ⟨rfl, hb10⟩
                have HP10 := hid (HP9.out.call hb10); clear hb10
                rw [beq_self_eq_true]
                go_wp2_with fail
                go_roundw
                case rel => exact ⟨_, _, _, _, _, k + 1, rfl, rfl, by go_num, by omega, hl2, HP10⟩
                case measure => simp [intOf]; omega
        · by_cases hbad : ti < 0 ∨ ¬ relOk s ni si
          · have HB := hid hbad; clear hbad
            go_wp2_with fail
            refine (add_range _ _ _ _ _ (hP.out.call ((Below.refl _ _).alloc (Nat.le_refl _) _)).q ti ni si HB.out).mono ?_; rintro e w4 ⟨rfl, hb4⟩
            have HP4 := hid ((hP.out.call ((Below.refl _ _).alloc (Nat.le_refl _) _)).call hb4); have BX4 := hid (BX.out.call hb4)
            have d1 := BX4.out.cell 1; have d2 := BX4.out.cell 2; have d3 := BX4.out.cell 3; simp at d1 d2 d3; clear hb4
            go_wp2_with fail
            refine (radd_range _ _ _ _ _ HP4.out.o ti ni si HB.out).mono ?_; rintro e w5 ⟨rfl, rfl⟩
            have HP2 := HP4; clear d1 d2 d3
            go_wp2_with fail
            refine (next_any _ _ _ _ _ HP2.out.q).mono ?_; rintro e w7 ⟨rfl, rfl⟩
            go_wp2_with fail
            refine (rnext_any _ _ _ _ _ HP2.out.o).mono ?_; rintro e w7 ⟨rfl, rfl⟩
            go_wp2_with fail
            refine (wait_any _ _ _ _ _ HP2.out.q).mono ?_; rintro e w8 ⟨v8, rfl, hi8, hb8⟩
            have HI8 := hid hi8; have HP8 := hid (HP2.out.call hb8); clear hi8 hb8
            go_wp2_with fail
            refine (rwait_any _ _ _ _ _ HP8.out.o).mono ?_; rintro e w9 ⟨v9, rfl, hi9, hb9⟩
            have HI9 := hid hi9; have HP9 := hid (HP8.out.call hb9); have HI8' := hid (HI8.out.call hb9); clear hi9 hb9
            go_wp2_with fail
            refine (same_any _ v8 v9 _ _ HI8'.out HI9.out).mono ?_; rintro e w10 ⟨rfl, hb10⟩
            have HP10 := hid (HP9.out.call hb10); clear hb10
            rw [beq_self_eq_true]
            go_wp2_with fail
            go_roundw
            case rel => exact ⟨_, _, _, _, _, k + 1, rfl, rfl, by go_num, by omega, hl2, HP10⟩
            case measure => simp [intOf]; omega
          · have ht : 0 ≤ ti := by omega
            have HR := hid (show relOk s ni si from Classical.byContradiction fun h => hbad (.inr h)); clear hbad
            cases hd : hasL l ti with
            | true =>
              have HD := hid hd; clear hd
              go_wp2_with fail
              refine (add_dup _ _ _ _ _ (hP.out.call ((Below.refl _ _).alloc (Nat.le_refl _) _)).q ti ni si ht HR.out HD.out).mono ?_; rintro e w4 ⟨rfl, hb4⟩
              have HP4 := hid ((hP.out.call ((Below.refl _ _).alloc (Nat.le_refl _) _)).call hb4); have BX4 := hid (BX.out.call hb4)
              have d1 := BX4.out.cell 1; have d2 := BX4.out.cell 2; have d3 := BX4.out.cell 3; simp at d1 d2 d3; clear hb4
              go_wp2_with fail
              refine (radd_any _ _ _ _ _ HP4.out.o HP4.out.q.sorted hlk9 ti ni si ht HR.out).mono ?_; rintro e w5 (⟨_, rfl, hb5⟩ | ⟨hno, _⟩)
              · have HP2 := hid (HP4.out.call hb5); clear d1 d2 d3 hb5
                go_wp2_with fail
                refine (next_any _ _ _ _ _ HP2.out.q).mono ?_; rintro e w7 ⟨rfl, rfl⟩
                go_wp2_with fail
                refine (rnext_any _ _ _ _ _ HP2.out.o).mono ?_; rintro e w7 ⟨rfl, rfl⟩
                go_wp2_with fail
                refine (wait_any _ _ _ _ _ HP2.out.q).mono ?_; rintro e w8 ⟨v8, rfl, hi8, hb8⟩
                have HI8 := hid hi8; have HP8 := hid (HP2.out.call hb8); clear hi8 hb8
                go_wp2_with fail
                refine (rwait_any _ _ _ _ _ HP8.out.o).mono ?_; rintro e w9 ⟨v9, rfl, hi9, hb9⟩
                have HI9 := hid hi9; have HP9 := hid (HP8.out.call hb9); have HI8' := hid (HI8.out.call hb9); clear hi9 hb9
                go_wp2_with fail
                refine (same_any _ v8 v9 _ _ HI8'.out HI9.out).mono ?_; rintro e w10 ⟨rfl, hb10⟩
                have HP10 := hid (HP9.out.call hb10); clear hb10
                rw [beq_self_eq_true]
                go_wp2_with fail
                go_roundw
                case rel => exact ⟨_, _, _, _, _, k + 1, rfl, rfl, by go_num, by omega, hl2, HP10⟩
                case measure => simp [intOf]; omega
              · rw [HD.out] at hno; cases hno
            | false =>
              have HD := hid hd; clear hd
              go_wp2_with fail
              refine (add_new _ _ _ _ _ (hP.out.call ((Below.refl _ _).alloc (Nat.le_refl _) _)).q hlk9 ti ni si ht HR.out HD.out).mono ?_; rintro e w4 ⟨rfl, r4, hq4, hk4, hr4⟩
              have HP4 := hid ((hP.out.call ((Below.refl _ _).alloc (Nat.le_refl _) _)).stepQ hk4 hq4 hr4); have BX4 := hid (hk4.blk BX.out (by omega) (fun e => by have := hrx.out _ e.symm; omega))
              have d1 := BX4.out.cell 1; have d2 := BX4.out.cell 2; have d3 := BX4.out.cell 3; simp at d1 d2 d3; clear hq4 hk4 hr4
              have HS4 := hid hP.out.q.sorted
              go_wp2_with fail
              refine (radd_any _ _ _ _ _ HP4.out.o HS4.out hlk9 ti ni si ht HR.out).mono ?_; rintro e w5 (⟨hno, _⟩ | ⟨_, rfl, t5, ho5, hk5, ht5⟩)
              · rw [HD.out] at hno; cases hno
              · have HP2 := hid (HP4.out.stepO hk5 ho5 ht5); clear d1 d2 d3 ho5 hk5 ht5
                have hl2 : (ins (relT s ni si, ti) l).length ≤ k + 1 := by rw [ins_length]; omega
                go_wp2_with fail
                refine (next_any _ _ _ _ _ HP2.out.q).mono ?_; rintro e w7 ⟨rfl, rfl⟩
                go_wp2_with fail
                refine (rnext_any _ _ _ _ _ HP2.out.o).mono ?_; rintro e w7 ⟨rfl, rfl⟩
                go_wp2_with fail
                refine (wait_any _ _ _ _ _ HP2.out.q).mono ?_; rintro e w8 ⟨v8, rfl, hi8, hb8⟩
                have HI8 := hid hi8; have HP8 := hid (HP2.out.call hb8); clear hi8 hb8
                go_wp2_with fail
                refine (rwait_any _ _ _ _ _ HP8.out.o).mono ?_; rintro e w9 ⟨v9, rfl, hi9, hb9⟩
                have HI9 := hid hi9; have HP9 := hid (HP8.out.call hb9); have HI8' := hid (HI8.out.call hb9); clear hi9 hb9
                go_wp2_with fail
                refine (same_any _ v8 v9 _ _ HI8'.out HI9.out).mono ?_; rintro e w10 ⟨rfl, hb10⟩
                have HP10 := hid (HP9.out.call hb10); clear hb10
                rw [beq_self_eq_true]
                go_wp2_with fail
                go_roundw
                case rel => exact ⟨_, _, _, _, _, k + 1, rfl, rfl, by go_num, by omega, hl2, HP10⟩
                case measure => simp [intOf]; omega
        · go_wp2_with fail
          have BXD := hid (show Blk (wr.alloc (.cells #[.int .i64 3, .int .i64 ti, .int .i64 ni, .int .i64 si] 28)).drew wr.heap.size #[.int .i64 3, .int .i64 ti, .int .i64 ni, .int .i64 si] 28 from BX.out.drew)
          have HAD := hid (show PP w (wr.alloc (.cells #[.int .i64 3, .int .i64 ti, .int .i64 ni, .int .i64 si] 28)).drew b r d t s l l from hP.out.call (((Below.refl _ _).alloc (Nat.le_refl _) _).drew))
          have hdx : d < wr.heap.size := hP.out.o.lt
          have htx := hid hP.out.o.rlt
          have hdl := hid (show (dueL ni l).length ≤ 1000000 from by have := due_length ni l; omega)
          have hnl := hid (show (notDue ni l).length ≤ k + 1 from by have := due_length ni l; omega)
          go_region_held3 (fun w' => w'.cell? ⟨wr.heap.size, 2, none⟩ = some (.int .i64 ni)) (go_keep)
            (first
              | (go_at_call 15; refine (due_any _ _ _ _ _ ni HPo.out.q).mono ?_; rintro e w6 ⟨v6, rfl, hv6, hq6, hk6⟩; have HP2 := hid (HPo.out.stepQ hk6 hq6 (fun x e => .inl e)); have HIo := hid (owns_ints (owns_past HVo.out hk6 (by simp; omega) (fun x e => by have := hrx.out x e; simp; omega)) hdl.out); have HIq := hid (owns_ints hv6 hdl.out); have BX6 := hid (hk6.blk BXo.out (by omega) (fun e => by have := hrx.out _ e.symm; omega)); have dc := BX6.out.cell 2; simp at dc; clear hv6 hq6 hk6)
              | (go_at_call 15; refine (due_any _ _ _ _ _ ni HAD.out.q).mono ?_; rintro e w5 ⟨v5, rfl, hv5, hq5, hk5⟩; have HPq := hid (HAD.out.stepQ hk5 hq5 (fun x e => .inl e)); have HVq := hid hv5; have BXq := hid (hk5.blk BXD.out (by omega) (fun e => by have := hrx.out _ e.symm; omega)); have dc := BXq.out.cell 2; simp at dc; clear hv5 hq5 hk5)
              | (go_at_call 23; refine (rdue_any _ _ _ _ _ ni HPq.out.o).mono ?_; rintro e w6 ⟨v6, t6, rfl, hv6, ho6, hk6, ht6⟩; have HP2 := hid (HPq.out.stepO hk6 ho6 ht6); have HIq := hid (owns_ints (owns_past HVq.out hk6 (by simp; omega) (fun x e => by cases e)) hdl.out); have HIo := hid (owns_ints hv6 hdl.out); have BX6 := hid (hk6.blk BXq.out (by omega) (fun e => by cases e)); have dc2 := BX6.out.cell 2; simp at dc2; clear hv6 ho6 hk6 ht6)
              | (go_at_call 23; refine (rdue_any _ _ _ _ _ ni HAD.out.o).mono ?_; rintro e w5 ⟨v5, t5, rfl, hv5, ho5, hk5, ht5⟩; have HPo := hid (HAD.out.stepO hk5 ho5 ht5); have HVo := hid hv5; have BXo := hid (hk5.blk BXD.out (by omega) (fun e => by cases e)); have dc2 := BXo.out.cell 2; simp at dc2; clear hv5 ho5 hk5 ht5)
              | (go_at_call 18; refine (same_any _ _ _ _ _ HIq.out HIo.out).mono ?_; rintro e w7 ⟨rfl, hb7⟩; have HP3 := hid (HP2.out.call hb7); have BX7 := hid (BX6.out.call hb7); have dc7 := BX7.out.cell 2; simp at dc7; clear hb7; try rw [beq_self_eq_true]))
          all_goals
            have hl2 := hnl.out
            clear HP2
            have HP2 := HP3
            clear HP3
            go_wp2_with fail
            refine (next_any _ _ _ _ _ HP2.out.q).mono ?_; rintro e w7 ⟨rfl, rfl⟩
            go_wp2_with fail
            refine (rnext_any _ _ _ _ _ HP2.out.o).mono ?_; rintro e w7 ⟨rfl, rfl⟩
            go_wp2_with fail
            refine (wait_any _ _ _ _ _ HP2.out.q).mono ?_; rintro e w8 ⟨v8, rfl, hi8, hb8⟩
            have HI8 := hid hi8; have HP8 := hid (HP2.out.call hb8); clear hi8 hb8
            go_wp2_with fail
            refine (rwait_any _ _ _ _ _ HP8.out.o).mono ?_; rintro e w9 ⟨v9, rfl, hi9, hb9⟩
            have HI9 := hid hi9; have HP9 := hid (HP8.out.call hb9); have HI8' := hid (HI8.out.call hb9); clear hi9 hb9
            go_wp2_with fail
            refine (same_any _ v8 v9 _ _ HI8'.out HI9.out).mono ?_; rintro e w10 ⟨rfl, hb10⟩
            have HP10 := hid (HP9.out.call hb10); clear hb10
            rw [beq_self_eq_true]
            go_wp2_with fail
            go_roundw
            case rel => exact ⟨_, _, _, _, _, k + 1, rfl, rfl, by go_num, by omega, hl2, HP10⟩
            case measure => simp [intOf]; omega
        · go_wp2_with fail
          refine (copy_any _ _ _ _ _ (hP.out.call ((Below.refl _ _).alloc (Nat.le_refl _) _)).q).mono ?_; rintro e w4 ⟨b4, r4, rfl, hq4, hb4, hr4, hB4⟩
          have HQ4 := hid hq4; have HA4 := hid (show PP w (wr.alloc (.cells #[.int .i64 4, .int .i64 ti, .int .i64 ni, .int .i64 si] 28)) b r d t s l l from (hP.out.call ((Below.refl _ _).alloc (Nat.le_refl _) _))); have HB4 := hid hB4; have HR4 := hid hr4; have HH4 := hid hb4; clear hq4 hB4 hr4 hb4
          go_wp2_with fail
          refine (due_any _ _ _ _ _ 2199023255552 (HA4.out.call HB4.out).q).mono ?_; rintro e w5 ⟨v5, rfl, _, _, hk5⟩
          have HP5 := hid (HA4.out.copyQ HQ4.out HH4.out HR4.out HB4.out hk5); clear hk5
          go_wp2_with fail
          refine (rcopy_any _ _ _ _ _ HP5.out.o).mono ?_; rintro e w6 ⟨d6, t6, rfl, ho6, hd6, ht6, hB6⟩
          have HP2 := hid (HP5.out.copyO ho6 hd6 ht6 hB6); clear ho6 hd6 ht6 hB6
          go_wp2_with fail
          refine (next_any _ _ _ _ _ HP2.out.q).mono ?_; rintro e w7 ⟨rfl, rfl⟩
          go_wp2_with fail
          refine (rnext_any _ _ _ _ _ HP2.out.o).mono ?_; rintro e w7 ⟨rfl, rfl⟩
          go_wp2_with fail
          refine (wait_any _ _ _ _ _ HP2.out.q).mono ?_; rintro e w8 ⟨v8, rfl, hi8, hb8⟩
          have HI8 := hid hi8; have HP8 := hid (HP2.out.call hb8); clear hi8 hb8
          go_wp2_with fail
          refine (rwait_any _ _ _ _ _ HP8.out.o).mono ?_; rintro e w9 ⟨v9, rfl, hi9, hb9⟩
          have HI9 := hid hi9; have HP9 := hid (HP8.out.call hb9); have HI8' := hid (HI8.out.call hb9); clear hi9 hb9
          go_wp2_with fail
          refine (same_any _ v8 v9 _ _ HI8'.out HI9.out).mono ?_; rintro e w10 ⟨rfl, hb10⟩
          have HP10 := hid (HP9.out.call hb10); clear hb10
          rw [beq_self_eq_true]
          go_wp2_with fail
          go_roundw
          case rel => exact ⟨_, _, _, _, _, k + 1, rfl, rfl, by go_num, by omega, hl2, HP10⟩
          case measure => simp [intOf]; omega
      · have g0 : (ki == 0) = false := by simp; omega
        have g1 : (ki == 1) = false := by simp; omega
        have g2 : (ki == 2) = false := by simp; omega
        have g3 : (ki == 3) = false := by simp; omega
        have g4 : (ki == 4) = false := by simp; omega
        clear hk5
        have HP2 := hid (hP.out.call (w1 := wr.alloc (.cells #[.int .i64 ki, .int .i64 ti, .int .i64 ni, .int .i64 si] 28)) ((Below.refl _ _).alloc (Nat.le_refl _) _))
        go_wp2_with fail
        refine (next_any _ _ _ _ _ HP2.out.q).mono ?_; rintro e w7 ⟨rfl, rfl⟩
        go_wp2_with fail
        refine (rnext_any _ _ _ _ _ HP2.out.o).mono ?_; rintro e w7 ⟨rfl, rfl⟩
        go_wp2_with fail
        refine (wait_any _ _ _ _ _ HP2.out.q).mono ?_; rintro e w8 ⟨v8, rfl, hi8, hb8⟩
        have HI8 := hid hi8; have HP8 := hid (HP2.out.call hb8); clear hi8 hb8
        go_wp2_with fail
        refine (rwait_any _ _ _ _ _ HP8.out.o).mono ?_; rintro e w9 ⟨v9, rfl, hi9, hb9⟩
        have HI9 := hid hi9; have HP9 := hid (HP8.out.call hb9); have HI8' := hid (HI8.out.call hb9); clear hi9 hb9
        go_wp2_with fail
        refine (same_any _ v8 v9 _ _ HI8'.out HI9.out).mono ?_; rintro e w10 ⟨rfl, hb10⟩
        have HP10 := hid (HP9.out.call hb10); clear hb10
        rw [beq_self_eq_true]
        go_wp2_with fail
        go_roundw
        case rel => exact ⟨_, _, _, _, _, k + 1, rfl, rfl, by go_num, by omega, hl2, HP10⟩
        case measure => simp [intOf]; omega
    · go_wp2_with fail
      refine (awake_any _).mono ?_; rintro e w3 ⟨rfl, hb3⟩
      go_wp2_with fail
      go_ret
      exact ⟨rfl, hP.out.below.trans (hb3.mono hP.out.below.size)⟩
end Go.Proofs.Ytjpkglgbcflbnaa
