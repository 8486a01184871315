/- GeomCalls: the row and the tied card: for every text and every integer the law answers true; conditions: none beyond the row's own. -/
import Derived.Test.YtikfgddgfddbaaaGreatDoorMc1
import Derived.Deep.DeepCutAuto
namespace Go.Proofs.YtikfgddgfddbaaaGreatDoor
open Go.RowKit
open Go.Lib (decDigits nDigits)
set_option linter.unusedVariables false
set_option linter.unusedSimpArgs false

/-- What one series gives, as three results. -/
def serV (o : Option (Nat × Nat)) : Value := match o with
  | none => .tuple #[.int .i64 0, .int .i64 0, .bool false]
  | some (n, p) => .tuple #[.int .i64 (n : Nat), .int .i64 (p : Nat), .bool true]

theorem coinF_toss (N D : Nat) (l : List UInt8) (p : Nat) : tossAt N D (l.drop p) 0 1 0 = coinF N D l p := by
  unfold coinF tossAt
  simp

theorem coinF_val (N D : Nat) (l : List UInt8) (p : Nat) : (coinF N D l p).2.1 ≤ 1 := by
  rw [coinF_eq]
  exact toss_val _ _ _ _ _

set_option maxRecDepth 100000 in
set_option maxHeartbeats 2000000 in
theorem r6_Series (w : World) (v : Value) (q : Rat) (s : ByteArray) (hs : s.size ≤ 100000) (h : IsQ .i64 w v q) (l1 : (limbs q.num.natAbs).length ≤ 100000) (l2 : (limbs q.den).length ≤ 100000) (hlt : q.num.natAbs < q.den) :
    Calls Tryz.prog 30 #[v, .string s] w fun e w' => e = .returned (serV (s1 q.num.natAbs q.den s.data.toList 0 0)) ∧ Below w.heap.size w w' := by
  obtain ⟨m, a, n, c, a', n', c', rfl⟩ := h.qv
  have RT := fun V p (hV : IsQ .i64 V (.agg #[.bool m, .slice a n c, .slice a' n' c']) q) => hid (r4_Toss V (.agg #[.bool m, .slice a n c, .slice a' n' c']) q (s.extract p s.size) (by simp; omega) hV l1 l2)
  obtain ⟨N, hN⟩ : ∃ N, q.num.natAbs = N := ⟨_, rfl⟩
  obtain ⟨D, hD⟩ : ∃ D, q.den = D := ⟨_, rfl⟩
  have hx : ∀ p, (s.extract p s.size).data.toList = s.data.toList.drop p := fun p => by
    rw [extract_list]
    refine List.take_of_length_le ?_
    rw [List.length_drop]
    simp
  obtain ⟨L, hL⟩ : ∃ L, s.data.toList = L := ⟨_, rfl⟩
  have hlen := hid (show L.length = s.size from by rw [← hL]; simp)
  simp only [hN, hD, hx, hL, coinF_toss] at RT
  rw [hN, hD] at hlt
  rw [hN, hD, hL]
  have HQ := hid h; have HS := hid hs; have HLT := hid hlt
  clear h l1 l2 hN hD hL hx hlt
  have x0 := hid (Blk.new w #[.bool m, .slice a n c, .slice a' n' c'] 51)
  have b1 := hid ((Below.refl w.heap.size w).alloc (Nat.le_refl _) (.cells #[.bool m, .slice a n c, .slice a' n' c'] 51))
  go_enter Tryz.func30, Tryz.ntmps30
  go_wp2_with fail
  go_loopw [7, 8] (fun nn pp wr => ∃ n0 p : Nat, nn = .int .i64 n0 ∧ pp = .int .i64 p ∧ n0 ≤ p ∧ p ≤ s.size ∧ Hid (s1 N D L p n0 = s1 N D L 0 0) ∧ Hid (Blk wr w.heap.size #[.bool m, .slice a n c, .slice a' n' c'] 51) ∧ Hid (Below w.heap.size w wr)) (fun nn pp wr => s.size - (intOf pp).toNat)
  case atStart => exact ⟨0, 0, rfl, rfl, Nat.le_refl _, Nat.zero_le _, rfl, x0, b1⟩
  case round =>
    obtain ⟨n0, p, rfl, rfl, hnp, hp, hS, k0, hB⟩ := hrel
    have RI := fun V hV => RT V p hV
    obtain ⟨x, hx⟩ : ∃ x, coinF N D L p = x := ⟨_, rfl⟩
    have HX := hid hx
    have hle := coinF_le (N := N) (D := D) (l := L) (p := p) (by rw [hlen.out]; exact hp)
    rw [hx, hlen.out] at hle
    simp only [hx] at RI
    obtain ⟨d, vv, u⟩ := x
    simp only [coinV] at RI
    have iq : Hid (IsQ .i64 wr (.agg #[.bool m, .slice a n c, .slice a' n' c']) q) := HQ.out.keep2 hB.out
    have HLE := hid hle
    simp only at hle
    have d0 := k0.out.cell 0
    have d1 := k0.out.cell 1
    have d2 := k0.out.cell 2
    simp at d0 d1 d2
    clear hx
    have h0 : (0 : Int) ≤ (p : Int) := by omega
    have h1 : (p : Int) ≤ (s.size : Int) := by omega
    go_upto_region 3 with fail
    go_cut [9] (fun s9 wx => ∃ g : Nat, s9 = .pointer (some ⟨g, 0, none⟩) ∧ Blk wx g #[.bool d, .int .i64 (vv : Nat), .int .i64 (u : Nat)] 26 ∧ Below wr.heap.size wr wx)
    case first =>
      have KK : Hid (∀ w', Below wr.heap.size wr w' → w'.cell? ⟨w.heap.size, 0, none⟩ = some (.bool m) ∧ w'.cell? ⟨w.heap.size, 1, none⟩ = some (.slice a n c) ∧ w'.cell? ⟨w.heap.size, 2, none⟩ = some (.slice a' n' c')) := fun w' hb => by
        have y := k0.out.call hb
        exact ⟨y.cell 0, y.cell 1, y.cell 2⟩
      refine held_plain [0, 1, 2, 3] 3 (fun w' => w'.cell? ⟨w.heap.size, 0, none⟩ = some (.bool m) ∧ w'.cell? ⟨w.heap.size, 1, none⟩ = some (.slice a n c) ∧ w'.cell? ⟨w.heap.size, 2, none⟩ = some (.slice a' n' c')) (by kernel_rfl) (by kernel_rfl) (by kernel_rfl) (by kernel_rfl) (KK.out _ (Below.refl _ _).drew) ?_
      iterate 4
        refine ⟨_, rfl, ?_⟩
        apply Exists.intro
        refine ⟨.inl ⟨by rfl, ?_⟩, ?_⟩
        · (intro W' hW'; obtain ⟨q1, q2, q3⟩ := hW'; go_simp; try (with_reducible rfl))
        (dsimp only [Act.put]; try simp only [List.setIfInBounds_toArray, List.set_cons_zero, List.set_cons_succ])
      refine held_two (i := 4) (j := 5) (by kernel_rfl) (by rfl) (by rfl) (by rfl) (by rfl) ?_ ?_
      · go_wp2_with fail
        refine (RI _ (iq.out.call (Below.refl _ _).drew)).out.mono ?_; rintro e w2 ⟨rfl, hb2⟩
        have y2 := hid (show Below wr.heap.size wr w2 from (Below.refl _ _).drew.trans hb2)
        clear hb2
        go_wp2_with fail
        refine ⟨KK.out _ y2.out, ?_⟩
        refine held_one (i := 5) (by kernel_rfl) (by rfl) (by rfl) ?_
        go_wp2_with fail
        refine ⟨KK.out _ (y2.out.alloc y2.out.size _), ?_⟩
        refine held_one (i := 6) (by kernel_rfl) (by rfl) (by rfl) ?_
        go_wp2_with fail
        refine ⟨KK.out _ (y2.out.alloc y2.out.size _), ?_⟩
        refine wpAnyH_done (by kernel_rfl) ?_ _
        simp only [Only]
        go_wp2_with fail
        go_meet
        exact ⟨w2.heap.size, rfl, Blk.new w2 _ _, y2.out.alloc y2.out.size _⟩
      · go_wp2_with fail
        have A0 := hid (show Below wr.heap.size wr (wr.alloc (.cells #[.bool false, .int .i64 0, .int .i64 0] 26)).drew from ((Below.refl _ _).alloc (Nat.le_refl _) _).drew)
        have b0 := hid (show Blk (wr.alloc (.cells #[.bool false, .int .i64 0, .int .i64 0] 26)).drew wr.heap.size #[.bool false, .int .i64 0, .int .i64 0] 26 from Blk.new wr _ _)
        refine ⟨KK.out _ A0.out, ?_⟩
        refine held_one (i := 4) (by kernel_rfl) (by rfl) (by rfl) ?_
        go_wp2_with fail
        refine (RI _ (iq.out.call A0.out)).out.mono ?_; rintro e w2 ⟨rfl, hb2⟩
        have y2 := hid (A0.out.trans (hb2.mono A0.out.size))
        have BK := hid (b0.out.call hb2)
        have r0 := BK.out.cell 0
        have r1 := BK.out.cell 1
        have r2 := BK.out.cell 2
        have f0 := BK.out.free 0
        have f1 := BK.out.free 1
        have f2 := BK.out.free 2
        simp at r0 r1 r2
        clear hb2 A0 b0
        go_wp2_with fail
        refine ⟨KK.out _ y2.out, ?_⟩
        refine held_one (i := 6) (by kernel_rfl) (by rfl) (by rfl) ?_
        go_wp2_with fail
        refine ⟨KK.out _ (((y2.out.setCell (Nat.le_refl _) _).setCell (Nat.le_refl _) _).setCell (Nat.le_refl _) _), ?_⟩
        refine wpAnyH_done (by kernel_rfl) ?_ _
        simp only [Only]
        have bk := ((BK.out.set 0 (.bool d)).set 1 (.int .i64 (vv : Nat))).set 2 (.int .i64 (u : Nat))
        simp at bk
        have bkk := hid bk
        clear bk r0 r1 r2 f0 f1 f2
        go_wp2_with fail
        go_meet
        exact ⟨wr.heap.size, rfl, bkk.out, ((y2.out.setCell (Nat.le_refl _) _).setCell (Nat.le_refl _) _).setCell (Nat.le_refl _) _⟩
    case rest =>
      obtain ⟨g, rfl, hg, hb⟩ := hcut
      have B2 := hid (bnext hB.out hb); have k2 := hid (k0.out.call hb)
      have r0 := hg.cell 0
      have r1 := hg.cell 1
      have r2 := hg.cell 2
      simp at r0 r1 r2
      clear hg hb d0 d1 d2 RI RT iq
      cases d
      · have E := hid (s1_late (N := N) (D := D) (l := L) (p := p) (n := n0) (by rw [HX.out]))
        go_wp2_with fail
        refine bodyPost_ret (v := .tuple #[.int .i64 0, .int .i64 0, .bool false]) (by simp [results, Tryz.results30, go_sem]) rfl ⟨by rw [← hS.out, E.out]; rfl, B2.out⟩
      · have hv := coinF_val N D L p
        rw [HX.out] at hv
        simp only at hv
        have w1 : IntKind.i64.wrap ((p : Int) + (u : Nat)) = ((p + u : Nat) : Int) := by
          have := HS.out
          rw [IntWalk.i64_in _ ⟨by omega, by omega⟩]; omega
        have w2 : IntKind.i64.wrap ((n0 : Int) + 1) = ((n0 + 1 : Nat) : Int) := by
          have := HS.out
          rw [IntWalk.i64_in _ ⟨by omega, by omega⟩]; omega
        by_cases h0 : vv = 0
        · subst h0
          have E := hid (s1_stop (N := N) (D := D) (l := L) (p := p) (n := n0) (by rw [HX.out]) (by rw [HX.out]; simp))
          rw [HX.out] at E
          go_wp2_with fail
          refine bodyPost_ret (v := .tuple #[.int .i64 (n0 : Nat), .int .i64 ((p + u : Nat) : Int), .bool true]) (by simp [results, Tryz.results30, go_sem]) rfl ⟨by rw [← hS.out, E.out]; rfl, B2.out⟩
        · obtain rfl : vv = 1 := by omega
          have hge := coinF_one (N := N) (D := D) (l := L) (p := p) HLT.out (by rw [HX.out]) (by rw [HX.out])
          rw [HX.out] at hge
          simp only at hge
          have E := hid (s1_more (n := n0) HLT.out (by rw [hlen.out]; exact hp) (by rw [HX.out]) (by rw [HX.out]))
          rw [HX.out] at E
          have E2 : Hid (s1 N D L (p + u) (n0 + 1) = s1 N D L 0 0) := by rw [← hS.out]; exact E.out.symm
          go_wp2_with fail
          go_roundw
          case rel => exact ⟨n0 + 1, p + u, rfl, rfl, by omega, hle, E2, k2, B2⟩
          case measure => simp [intOf] <;> omega
end Go.Proofs.YtikfgddgfddbaaaGreatDoor

/- Walks: the reference's formula (whole), OneMass, TwoMass, OneTail, TwoTail; One, Two. -/
namespace Go.Proofs.YtikfgddgfddbaaaGreatDoor
open Go.RowKit Go.Shelf
open Go.Lib (decDigits nDigits)
set_option linter.unusedVariables false
set_option linter.unusedSimpArgs false

def rfB (two tail : Bool) (a : ByteArray) (k : Int) : ByteArray := if two = true then (if tail = true then ttB a k else tmB a k) else (if tail = true then otB a k else omB a k)
def rfE (two tail : Bool) (a : ByteArray) (k : Int) : Int := if two = true then (if tail = true then ttE a k else tmE a k) else (if tail = true then otE a k else omE a k)

theorem rf_bad {two tail : Bool} {a : ByteArray} {k : Int} (h : gPE a ≠ 0) : rfB two tail a k = ⟨#[]⟩ ∧ rfE two tail a k = gPE a := by
  unfold rfB rfE omB omE tmB tmE otB otE ttB ttE foB foE
  simp only [if_pos h]
  cases two <;> cases tail <;> exact ⟨rfl, rfl⟩
theorem rf_far {two tail : Bool} {a : ByteArray} {k : Int} (h : gPE a = 0) (hk : k < -10000 ∨ 10000 < k) : rfB two tail a k = ⟨#[]⟩ ∧ rfE two tail a k = 2 := by
  unfold rfB rfE omB omE tmB tmE otB otE ttB ttE foB foE
  have hn : ¬ gPE a ≠ 0 := fun e => e h
  simp only [if_neg hn, if_pos hk]
  cases two <;> cases tail <;> exact ⟨rfl, rfl⟩
theorem rf_zero {tail : Bool} {a : ByteArray} {k : Int} (h : gPE a = 0) (hk : ¬ (k < -10000 ∨ 10000 < k)) (h0 : k < 0) : rfB false tail a k = (if tail = true then numB 1 else numB 0) ∧ rfE false tail a k = 0 := by
  unfold rfB rfE omB omE otB otE foB foE
  have hn : ¬ gPE a ≠ 0 := fun e => e h
  simp only [if_neg hn, if_neg hk, if_pos h0]
  cases tail <;> exact ⟨rfl, rfl⟩

set_option maxRecDepth 100000 in
set_option maxHeartbeats 1000000 in
theorem r6_formula_bad (w : World) (a : ByteArray) (k : Int) (two tail : Bool) (ha : a.size ≤ 100000) (hg : gPE a ≠ 0) :
    Calls Tryz.prog 34 #[.string a, .int .i64 k, .bool two, .bool tail] w fun e w' => e = .returned (.tuple #[.string ⟨#[]⟩, .int .i64 (gPE a)]) ∧ Below w.heap.size w w' := by
  have R0 := fun V => hid (r6_Ratio V a (by omega))
  obtain ⟨x, hx⟩ : ∃ x, gPE a = x := ⟨_, rfl⟩
  rw [hx] at R0 hg ⊢
  have q0 : (x != 0) = true := by simpa using hg
  clear ha hg hx
  go_enter Tryz.func34, Tryz.ntmps34
  go_wp2_with fail
  refine (R0 _).out.mono ?_; rintro e w1 ⟨rfl, hb1⟩
  have y1 := hid hb1
  clear hb1
  go_wp2_with fail
  go_ret2
  exact ⟨rfl, y1.out⟩

set_option maxRecDepth 100000 in
set_option maxHeartbeats 1000000 in
theorem r6_formula_far (w : World) (a : ByteArray) (k : Int) (two tail : Bool) (ha : a.size ≤ 100000) (hg : gPE a = 0) (hk : k < -10000 ∨ 10000 < k) :
    Calls Tryz.prog 34 #[.string a, .int .i64 k, .bool two, .bool tail] w fun e w' => e = .returned (.tuple #[.string ⟨#[]⟩, .int .i64 2]) ∧ Below w.heap.size w w' := by
  have R0 := fun V => hid (r6_Ratio V a (by omega))
  rw [hg] at R0
  clear ha hg
  rcases Int.lt_or_le k (-10000) with h | h
  · have q0 : decide (k < -10000) = true := by simpa using h
    clear hk h
    go_enter Tryz.func34, Tryz.ntmps34
    go_wp2_with fail
    refine (R0 _).out.mono ?_; rintro e w1 ⟨rfl, hb1⟩
    have y1 := hid hb1
    clear hb1
    go_wp2_with fail
    go_ret2
    exact ⟨rfl, y1.out⟩
  · have q0 : decide (k < -10000) = false := by simp; omega
    have q1 : decide (10000 < k) = true := by simp; omega
    clear hk h
    go_enter Tryz.func34, Tryz.ntmps34
    go_wp2_with fail
    refine (R0 _).out.mono ?_; rintro e w1 ⟨rfl, hb1⟩
    have y1 := hid hb1
    clear hb1
    go_wp2_with fail
    go_ret2
    exact ⟨rfl, y1.out⟩

theorem r6_formula (w : World) (a : ByteArray) (k : Int) (two tail : Bool) (ha : a.size ≤ 100000) :
    Calls Tryz.prog 34 #[.string a, .int .i64 k, .bool two, .bool tail] w fun e w' => e = .returned (.tuple #[.string (rfB two tail a k), .int .i64 (rfE two tail a k)]) ∧ Below w.heap.size w w' := by
  by_cases hg : gPE a = 0
  · by_cases hk : k < -10000 ∨ 10000 < k
    · obtain ⟨e1, e2⟩ := rf_far (two := two) (tail := tail) hg hk
      rw [e1, e2]
      exact r6_formula_far w a k two tail ha hg hk
    · have hk' : -10000 ≤ k ∧ k ≤ 10000 := by omega
      by_cases h0 : two = false ∧ k < 0
      · obtain ⟨rfl, h0⟩ := h0
        obtain ⟨e1, e2⟩ := rf_zero (tail := tail) hg hk h0
        rw [e1, e2]
        cases tail
        · exact fm_main w a k 0 false false (vQ a) _ _ ha hg rfl hk' (by omega) (.inl ⟨rfl, rfl, h0, by rw [numB_zero]; rfl, rfl⟩)
        · exact fm_main w a k 0 false true (vQ a) _ _ ha hg rfl hk' (by omega) (.inr (.inl ⟨rfl, rfl, h0, by rw [numB_one]; rfl, rfl⟩))
      · obtain ⟨hq, hnum, hlt, hdig⟩ := ratio_is hg
        have ho := pow_ov (Nat.le_of_lt hlt)
        have main := fun m T x hm key => fm_main w a k m two tail (vQ a) T x ha hg rfl hk' hm key
        have hn : ¬ gPE a ≠ 0 := fun e => e hg
        have e1 : ∀ A : Rat, 1 + -A = fNot A := fun A => by unfold fNot; rw [Rat.sub_eq_add_neg]
        have e2 : ∀ A : Rat, (1 + A)⁻¹ = fUnder A := fun A => by unfold fUnder; rw [Rat.div_def, Rat.one_mul]
        unfold rfB rfE
        cases two
        · have h1 : ¬ k < 0 := fun h => h0 ⟨rfl, h⟩
          obtain ⟨n, rfl⟩ : ∃ n : Nat, k = n := ⟨k.toNat, by omega⟩
          cases tail
          · have hh := main n _ _ (by omega) (.inr (.inr (.inl ⟨rfl, rfl, rfl, rfl, rfl⟩)))
            obtain ⟨r1, r2⟩ := fr_ref fNot n (vQ a)
            simp only [Bool.false_eq_true, if_false]
            unfold omB omE foB foE
            rw [if_neg hn, if_neg hk, if_neg h1, if_neg hn, if_neg hk, if_neg h1, show (n : Int).toNat = n from rfl, r1, r2]
            simp only [ho]
            rw [e1] at hh
            unfold pvB pvE at hh
            exact hh
          · have hh := main n _ _ (by omega) (.inr (.inr (.inr (.inl ⟨rfl, rfl, rfl, rfl, rfl⟩))))
            obtain ⟨r1, r2⟩ := fr_ref (fun _ => 1) n (vQ a)
            simp only [Bool.false_eq_true, if_false, if_true]
            unfold otB otE foB foE
            rw [if_neg hn, if_neg hk, if_neg h1, if_neg hn, if_neg hk, if_neg h1, show (n : Int).toNat = n from rfl, r1, r2]
            simp only [ho, Rat.one_mul]
            unfold pvB pvE at hh
            exact hh
        · cases tail
          · have hh := main k.natAbs _ _ (by omega) (.inr (.inr (.inr (.inr (.inl ⟨rfl, rfl, by omega, rfl, rfl⟩)))))
            obtain ⟨r1, r2⟩ := fr_ref fShare k.natAbs (vQ a)
            simp only [Bool.false_eq_true, if_false, if_true]
            unfold tmB tmE foB foE
            rw [if_neg hn, if_neg hk, if_neg hn, if_neg hk, r1, r2]
            simp only [ho]
            rw [e1, e2] at hh
            unfold pvB pvE at hh
            exact hh
          · simp only [if_true]
            unfold ttB ttE foB foE
            rw [if_neg hn, if_neg hk, if_neg hn, if_neg hk]
            by_cases h1 : k < 1
            · have hh := main (1 - k).toNat _ _ (by omega) (.inr (.inr (.inr (.inr (.inr (.inl ⟨rfl, rfl, h1, by omega, rfl, rfl⟩))))))
              obtain ⟨r1, r2⟩ := fr_ref2 hnum hlt (1 - k).toNat
              rw [if_pos h1, if_pos h1, r1, r2]
              simp only [ho]
              rw [e2, ← Rat.sub_eq_add_neg] at hh
              unfold pvB pvE at hh
              exact hh
            · obtain ⟨n, rfl⟩ : ∃ n : Nat, k = n := ⟨k.toNat, by omega⟩
              have hh := main n _ _ (by omega) (.inr (.inr (.inr (.inr (.inr (.inr ⟨rfl, rfl, by omega, rfl, rfl, rfl⟩))))))
              obtain ⟨r1, r2⟩ := fr_ref fUnder n (vQ a)
              rw [if_neg h1, if_neg h1, show (n : Int).toNat = n from rfl, r1, r2]
              simp only [ho]
              rw [e2] at hh
              unfold pvB pvE at hh
              exact hh
  · obtain ⟨e1, e2⟩ := rf_bad (two := two) (tail := tail) (k := k) hg
    rw [e1, e2]
    exact r6_formula_bad w a k two tail ha hg

set_option maxRecDepth 100000 in
theorem r6_OneMass (w : World) (a : ByteArray) (k : Int) (ha : a.size ≤ 100000) :
    Calls Tryz.prog 13 #[.string a, .int .i64 k] w fun e w' => e = .returned (.tuple #[.string (omB a k), .int .i64 (omE a k)]) ∧ Below w.heap.size w w' := by
  have H := hid (r6_formula w a k false false ha)
  have e1 : rfB false false a k = omB a k := rfl
  have e2 : rfE false false a k = omE a k := rfl
  rw [e1, e2] at H
  generalize omB a k = R at H ⊢
  generalize omE a k = x at H ⊢
  clear e1 e2 ha
  go_enter Tryz.func13, Tryz.ntmps13
  go_wp2_with fail
  refine H.out.mono ?_; rintro e w1 ⟨rfl, hb1⟩
  have y1 := hid hb1
  clear hb1
  go_wp2_with fail
  go_ret2
  exact ⟨rfl, y1.out⟩

set_option maxRecDepth 100000 in
theorem r6_TwoMass (w : World) (a : ByteArray) (k : Int) (ha : a.size ≤ 100000) :
    Calls Tryz.prog 15 #[.string a, .int .i64 k] w fun e w' => e = .returned (.tuple #[.string (tmB a k), .int .i64 (tmE a k)]) ∧ Below w.heap.size w w' := by
  have H := hid (r6_formula w a k true false ha)
  have e1 : rfB true false a k = tmB a k := rfl
  have e2 : rfE true false a k = tmE a k := rfl
  rw [e1, e2] at H
  generalize tmB a k = R at H ⊢
  generalize tmE a k = x at H ⊢
  clear e1 e2 ha
  go_enter Tryz.func15, Tryz.ntmps15
  go_wp2_with fail
  refine H.out.mono ?_; rintro e w1 ⟨rfl, hb1⟩
  have y1 := hid hb1
  clear hb1
  go_wp2_with fail
  go_ret2
  exact ⟨rfl, y1.out⟩

set_option maxRecDepth 100000 in
theorem r6_OneTail (w : World) (a : ByteArray) (k : Int) (ha : a.size ≤ 100000) :
    Calls Tryz.prog 17 #[.string a, .int .i64 k] w fun e w' => e = .returned (.tuple #[.string (otB a k), .int .i64 (otE a k)]) ∧ Below w.heap.size w w' := by
  have H := hid (r6_formula w a k false true ha)
  have e1 : rfB false true a k = otB a k := rfl
  have e2 : rfE false true a k = otE a k := rfl
  rw [e1, e2] at H
  generalize otB a k = R at H ⊢
  generalize otE a k = x at H ⊢
  clear e1 e2 ha
  go_enter Tryz.func17, Tryz.ntmps17
  go_wp2_with fail
  refine H.out.mono ?_; rintro e w1 ⟨rfl, hb1⟩
  have y1 := hid hb1
  clear hb1
  go_wp2_with fail
  go_ret2
  exact ⟨rfl, y1.out⟩

set_option maxRecDepth 100000 in
theorem r6_TwoTail (w : World) (a : ByteArray) (k : Int) (ha : a.size ≤ 100000) :
    Calls Tryz.prog 19 #[.string a, .int .i64 k] w fun e w' => e = .returned (.tuple #[.string (ttB a k), .int .i64 (ttE a k)]) ∧ Below w.heap.size w w' := by
  have H := hid (r6_formula w a k true true ha)
  have e1 : rfB true true a k = ttB a k := rfl
  have e2 : rfE true true a k = ttE a k := rfl
  rw [e1, e2] at H
  generalize ttB a k = R at H ⊢
  generalize ttE a k = x at H ⊢
  clear e1 e2 ha
  go_enter Tryz.func19, Tryz.ntmps19
  go_wp2_with fail
  refine H.out.mono ?_; rintro e w1 ⟨rfl, hb1⟩
  have y1 := hid hb1
  clear hb1
  go_wp2_with fail
  go_ret2
  exact ⟨rfl, y1.out⟩

theorem ratio_nd {a : ByteArray} (h : gPE a = 0) : bN (cW a) = (vQ a).num.natAbs ∧ bN (qD a) = (vQ a).den := by
  obtain ⟨h1, h2, -, -⟩ := ratio_is h
  obtain ⟨g1, g2, g3⟩ := vQ_ok h1
  have hm : iM (cW a) = false := by
    rw [← g1, decide_eq_false_iff_not]; omega
  rw [iD_plain hm] at g2
  exact ⟨g2.symm, g3.symm⟩

theorem ratio_lb {a : ByteArray} (h : gPE a = 0) : (limbs (vQ a).num.natAbs).length ≤ 100000 ∧ (limbs (vQ a).den).length ≤ 100000 := (ratio_is h).2.2.2.limbs (L := 100000) (by omega) (by omega)

set_option maxRecDepth 100000 in
set_option maxHeartbeats 1000000 in
theorem r6_One_bad (w : World) (a b : ByteArray) (ha : a.size ≤ 1000000) (hb : b.size ≤ 1000000) (he : gE a b ≠ 0) :
    Calls Tryz.prog 10 #[.string a, .string b] w fun e w' => e = .returned (.tuple #[.agg #[.bool false, .int .i64 0, .int .i64 0], .int .i64 (gE a b)]) ∧ Below w.heap.size w w' := by
  have R0 := fun V => hid (r6_both V a b ha hb)
  obtain ⟨x, hx⟩ : ∃ x, gE a b = x := ⟨_, rfl⟩
  rw [hx] at R0 he ⊢
  have q0 : (x != 0) = true := by simpa using he
  have x0 := hid (Blk.new w #[.bool false, .int .i64 0, .int .i64 0] 26)
  have b0 := hid ((Below.refl w.heap.size w).alloc (Nat.le_refl _) (.cells #[.bool false, .int .i64 0, .int .i64 0] 26))
  clear ha hb he hx
  go_enter Tryz.func10, Tryz.ntmps10
  go_wp2_with fail
  refine (R0 _).out.mono ?_; rintro e w1 ⟨rfl, hb1⟩
  have x1 := hid (x0.out.call hb1); have b1 := hid (bnext b0.out hb1)
  have d0 := x1.out.cell 0
  have d1 := x1.out.cell 1
  have d2 := x1.out.cell 2
  have e0 := x1.out.free 0
  have e1 := x1.out.free 1
  have e2 := x1.out.free 2
  simp at d0 d1 d2
  clear hb1
  go_wp2_with fail
  refine bodyPost_ret (v := .tuple #[.agg #[.bool false, .int .i64 0, .int .i64 0], .int .i64 x]) (by simp [results, Tryz.results10, go_sem, d0, d1, d2]) rfl ⟨rfl, ?_⟩
  first | exact b1.out | exact ((b1.out.setCell (Nat.le_refl _) _).setCell (Nat.le_refl _) _).setCell (Nat.le_refl _) _

set_option maxRecDepth 100000 in
set_option maxHeartbeats 1000000 in
theorem r6_Two_bad (w : World) (a b : ByteArray) (ha : a.size ≤ 1000000) (hb : b.size ≤ 1000000) (he : gE a b ≠ 0) :
    Calls Tryz.prog 11 #[.string a, .string b] w fun e w' => e = .returned (.tuple #[.agg #[.bool false, .int .i64 0, .int .i64 0], .int .i64 (gE a b)]) ∧ Below w.heap.size w w' := by
  have R0 := fun V => hid (r6_both V a b ha hb)
  obtain ⟨x, hx⟩ : ∃ x, gE a b = x := ⟨_, rfl⟩
  rw [hx] at R0 he ⊢
  have q0 : (x != 0) = true := by simpa using he
  have x0 := hid (Blk.new w #[.bool false, .int .i64 0, .int .i64 0] 26)
  have b0 := hid ((Below.refl w.heap.size w).alloc (Nat.le_refl _) (.cells #[.bool false, .int .i64 0, .int .i64 0] 26))
  clear ha hb he hx
  go_enter Tryz.func11, Tryz.ntmps11
  go_wp2_with fail
  refine (R0 _).out.mono ?_; rintro e w1 ⟨rfl, hb1⟩
  have x1 := hid (x0.out.call hb1); have b1 := hid (bnext b0.out hb1)
  have d0 := x1.out.cell 0
  have d1 := x1.out.cell 1
  have d2 := x1.out.cell 2
  have e0 := x1.out.free 0
  have e1 := x1.out.free 1
  have e2 := x1.out.free 2
  simp at d0 d1 d2
  clear hb1
  go_wp2_with fail
  refine bodyPost_ret (v := .tuple #[.agg #[.bool false, .int .i64 0, .int .i64 0], .int .i64 x]) (by simp [results, Tryz.results11, go_sem, d0, d1, d2]) rfl ⟨rfl, ?_⟩
  first | exact b1.out | exact ((b1.out.setCell (Nat.le_refl _) _).setCell (Nat.le_refl _) _).setCell (Nat.le_refl _) _

set_option maxRecDepth 100000 in
set_option maxHeartbeats 1000000 in
theorem r6_One_none (w : World) (a b : ByteArray) (ha : a.size ≤ 100000) (hb : b.size ≤ 100000) (he : gE a b = 0) (hS : s1 (vQ a).num.natAbs (vQ a).den b.data.toList 0 0 = none) :
    Calls Tryz.prog 10 #[.string a, .string b] w fun e w' => e = .returned (.tuple #[.agg #[.bool false, .int .i64 0, .int .i64 (b.size : Nat)], .int .i64 0]) ∧ Below w.heap.size w w' := by
  have R0 := fun V => hid (r6_both V a b (by omega) (by omega))
  rw [he] at R0
  have R1 := fun V => hid (r2_Read V a (by omega))
  have hg := (gE_ok he).1
  obtain ⟨hq, hnum, hlt, hdig⟩ := ratio_is hg
  have RS := fun V v (hV : IsQ .i64 V v (vQ a)) => hid (r6_Series V v (vQ a) b (by omega) hV (ratio_lb hg).1 (ratio_lb hg).2 hlt)
  rw [hS] at RS
  have HQ := hid hq
  have RS' : ∀ V v, IsQ .i64 V v (vQ a) → Hid (Calls Tryz.prog 30 #[v, .string b] V fun e w' => e = .returned (.tuple #[.int .i64 0, .int .i64 0, .bool false]) ∧ Below V.heap.size V w') := RS
  clear RS
  have RS := RS'
  clear RS' ha hb he hg hq hnum hlt hdig hS
  have x0 := hid (Blk.new w #[.bool false, .int .i64 0, .int .i64 0] 26)
  have b0 := hid ((Below.refl w.heap.size w).alloc (Nat.le_refl _) (.cells #[.bool false, .int .i64 0, .int .i64 0] 26))
  go_enter Tryz.func10, Tryz.ntmps10
  go_wp2_with fail
  refine (R0 _).out.mono ?_; rintro e w1 ⟨rfl, hb1⟩
  have x1 := hid (x0.out.call hb1); have b1 := hid (bnext b0.out hb1)
  clear hb1
  go_wp2_with fail
  refine (R1 _).out.mono ?_; rintro e w2 ⟨hr, hb2⟩
  obtain ⟨pm, pa, pn, pc, pa', pn', pc', rfl, h1, -⟩ := hr.open
  have hqA := h1 HQ.out
  rw [HQ.out]
  have ba := (Below.refl w2.heap.size w2).alloc (Nat.le_refl _) (.cells #[.bool pm, .slice pa pn pc, .slice pa' pn' pc'] 51)
  have x2 := hid ((x1.out.call hb2).call ba); have b2 := hid (bnext (bnext b1.out hb2) ba); have q2 := hid (hqA.call ba)
  have y2 := hid (Blk.new w2 #[.bool pm, .slice pa pn pc, .slice pa' pn' pc'] 51)
  have g0 := y2.out.cell 0
  have g1 := y2.out.cell 1
  have g2 := y2.out.cell 2
  simp at g0 g1 g2
  clear hr hb2 h1 hqA ba
  go_wp2_with fail
  refine (RS _ _ q2.out).out.mono ?_; rintro e w3 ⟨rfl, hb3⟩
  have x3 := hid (x2.out.call hb3); have b3 := hid (bnext b2.out hb3)
  clear hb3 g0 g1 g2
  have d0 := x3.out.cell 0
  have d1 := x3.out.cell 1
  have d2 := x3.out.cell 2
  have e0 := x3.out.free 0
  have e1 := x3.out.free 1
  have e2 := x3.out.free 2
  simp at d0 d1 d2
  go_wp2_with fail
  have s3 := ((x3.out.set 0 (.bool false)).set 1 (.int .i64 0)).set 2 (.int .i64 (b.size : Nat))
  have f0 := s3.cell 0
  have f1 := s3.cell 1
  have f2 := s3.cell 2
  simp at f0 f1 f2
  refine bodyPost_ret (v := .tuple #[.agg #[.bool false, .int .i64 0, .int .i64 (b.size : Nat)], .int .i64 0]) (by simp [results, Tryz.results10, go_sem, f0, f1, f2]) rfl ⟨rfl, ?_⟩
  exact ((b3.out.setCell (Nat.le_refl _) _).setCell (Nat.le_refl _) _).setCell (Nat.le_refl _) _

set_option maxRecDepth 100000 in
set_option maxHeartbeats 1000000 in
theorem r6_One_some (w : World) (a b : ByteArray) (n p : Nat) (ha : a.size ≤ 100000) (hb : b.size ≤ 100000) (he : gE a b = 0) (hS : s1 (vQ a).num.natAbs (vQ a).den b.data.toList 0 0 = some (n, p)) :
    Calls Tryz.prog 10 #[.string a, .string b] w fun e w' => e = .returned (.tuple #[.agg #[.bool true, .int .i64 (n : Nat), .int .i64 (p : Nat)], .int .i64 0]) ∧ Below w.heap.size w w' := by
  have R0 := fun V => hid (r6_both V a b (by omega) (by omega))
  rw [he] at R0
  have R1 := fun V => hid (r2_Read V a (by omega))
  have hg := (gE_ok he).1
  obtain ⟨hq, hnum, hlt, hdig⟩ := ratio_is hg
  have RS := fun V v (hV : IsQ .i64 V v (vQ a)) => hid (r6_Series V v (vQ a) b (by omega) hV (ratio_lb hg).1 (ratio_lb hg).2 hlt)
  rw [hS] at RS
  have HQ := hid hq
  have RS' : ∀ V v, IsQ .i64 V v (vQ a) → Hid (Calls Tryz.prog 30 #[v, .string b] V fun e w' => e = .returned (.tuple #[.int .i64 (n : Nat), .int .i64 (p : Nat), .bool true]) ∧ Below V.heap.size V w') := RS
  clear RS
  have RS := RS'
  clear RS' ha hb he hg hq hnum hlt hdig hS
  have x0 := hid (Blk.new w #[.bool false, .int .i64 0, .int .i64 0] 26)
  have b0 := hid ((Below.refl w.heap.size w).alloc (Nat.le_refl _) (.cells #[.bool false, .int .i64 0, .int .i64 0] 26))
  go_enter Tryz.func10, Tryz.ntmps10
  go_wp2_with fail
  refine (R0 _).out.mono ?_; rintro e w1 ⟨rfl, hb1⟩
  have x1 := hid (x0.out.call hb1); have b1 := hid (bnext b0.out hb1)
  clear hb1
  go_wp2_with fail
  refine (R1 _).out.mono ?_; rintro e w2 ⟨hr, hb2⟩
  obtain ⟨pm, pa, pn, pc, pa', pn', pc', rfl, h1, -⟩ := hr.open
  have hqA := h1 HQ.out
  rw [HQ.out]
  have ba := (Below.refl w2.heap.size w2).alloc (Nat.le_refl _) (.cells #[.bool pm, .slice pa pn pc, .slice pa' pn' pc'] 51)
  have x2 := hid ((x1.out.call hb2).call ba); have b2 := hid (bnext (bnext b1.out hb2) ba); have q2 := hid (hqA.call ba)
  have y2 := hid (Blk.new w2 #[.bool pm, .slice pa pn pc, .slice pa' pn' pc'] 51)
  have g0 := y2.out.cell 0
  have g1 := y2.out.cell 1
  have g2 := y2.out.cell 2
  simp at g0 g1 g2
  clear hr hb2 h1 hqA ba
  go_wp2_with fail
  refine (RS _ _ q2.out).out.mono ?_; rintro e w3 ⟨rfl, hb3⟩
  have x3 := hid (x2.out.call hb3); have b3 := hid (bnext b2.out hb3)
  clear hb3 g0 g1 g2
  have d0 := x3.out.cell 0
  have d1 := x3.out.cell 1
  have d2 := x3.out.cell 2
  have e0 := x3.out.free 0
  have e1 := x3.out.free 1
  have e2 := x3.out.free 2
  simp at d0 d1 d2
  go_wp2_with fail
  have s3 := ((x3.out.set 0 (.bool true)).set 1 (.int .i64 (n : Nat))).set 2 (.int .i64 (p : Nat))
  have f0 := s3.cell 0
  have f1 := s3.cell 1
  have f2 := s3.cell 2
  simp at f0 f1 f2
  refine bodyPost_ret (v := .tuple #[.agg #[.bool true, .int .i64 (n : Nat), .int .i64 (p : Nat)], .int .i64 0]) (by simp [results, Tryz.results10, go_sem, f0, f1, f2]) rfl ⟨rfl, ?_⟩
  exact ((b3.out.setCell (Nat.le_refl _) _).setCell (Nat.le_refl _) _).setCell (Nat.le_refl _) _

set_option maxRecDepth 100000 in
set_option maxHeartbeats 1000000 in
theorem r6_Two_none (w : World) (a b : ByteArray) (ha : a.size ≤ 100000) (hb : b.size ≤ 100000) (he : gE a b = 0) (hS : s1 (vQ a).num.natAbs (vQ a).den b.data.toList 0 0 = none) :
    Calls Tryz.prog 11 #[.string a, .string b] w fun e w' => e = .returned (.tuple #[.agg #[.bool false, .int .i64 0, .int .i64 (b.size : Nat)], .int .i64 0]) ∧ Below w.heap.size w w' := by
  have R0 := fun V => hid (r6_both V a b (by omega) (by omega))
  rw [he] at R0
  have R1 := fun V => hid (r2_Read V a (by omega))
  have hg := (gE_ok he).1
  obtain ⟨hq, hnum, hlt, hdig⟩ := ratio_is hg
  have RS := fun V v (hV : IsQ .i64 V v (vQ a)) => hid (r6_Series V v (vQ a) b (by omega) hV (ratio_lb hg).1 (ratio_lb hg).2 hlt)
  rw [hS] at RS
  have HQ := hid hq
  have RS' : ∀ V v, IsQ .i64 V v (vQ a) → Hid (Calls Tryz.prog 30 #[v, .string b] V fun e w' => e = .returned (.tuple #[.int .i64 0, .int .i64 0, .bool false]) ∧ Below V.heap.size V w') := RS
  clear RS
  have RS := RS'
  clear RS' ha hb he hg hq hnum hlt hdig hS
  have x0 := hid (Blk.new w #[.bool false, .int .i64 0, .int .i64 0] 26)
  have b0 := hid ((Below.refl w.heap.size w).alloc (Nat.le_refl _) (.cells #[.bool false, .int .i64 0, .int .i64 0] 26))
  go_enter Tryz.func11, Tryz.ntmps11
  go_wp2_with fail
  refine (R0 _).out.mono ?_; rintro e w1 ⟨rfl, hb1⟩
  have x1 := hid (x0.out.call hb1); have b1 := hid (bnext b0.out hb1)
  clear hb1
  go_wp2_with fail
  refine (R1 _).out.mono ?_; rintro e w2 ⟨hr, hb2⟩
  obtain ⟨pm, pa, pn, pc, pa', pn', pc', rfl, h1, -⟩ := hr.open
  have hqA := h1 HQ.out
  rw [HQ.out]
  have ba := (Below.refl w2.heap.size w2).alloc (Nat.le_refl _) (.cells #[.bool pm, .slice pa pn pc, .slice pa' pn' pc'] 51)
  have x2 := hid ((x1.out.call hb2).call ba); have b2 := hid (bnext (bnext b1.out hb2) ba); have q2 := hid (hqA.call ba)
  have y2 := hid (Blk.new w2 #[.bool pm, .slice pa pn pc, .slice pa' pn' pc'] 51)
  have g0 := y2.out.cell 0
  have g1 := y2.out.cell 1
  have g2 := y2.out.cell 2
  simp at g0 g1 g2
  clear hr hb2 h1 hqA ba
  go_wp2_with fail
  refine (RS _ _ q2.out).out.mono ?_; rintro e w3 ⟨rfl, hb3⟩
  have x3 := hid (x2.out.call hb3); have b3 := hid (bnext b2.out hb3)
  clear hb3 g0 g1 g2
  have d0 := x3.out.cell 0
  have d1 := x3.out.cell 1
  have d2 := x3.out.cell 2
  have e0 := x3.out.free 0
  have e1 := x3.out.free 1
  have e2 := x3.out.free 2
  simp at d0 d1 d2
  go_wp2_with fail
  have s3 := ((x3.out.set 0 (.bool false)).set 1 (.int .i64 0)).set 2 (.int .i64 (b.size : Nat))
  have f0 := s3.cell 0
  have f1 := s3.cell 1
  have f2 := s3.cell 2
  simp at f0 f1 f2
  refine bodyPost_ret (v := .tuple #[.agg #[.bool false, .int .i64 0, .int .i64 (b.size : Nat)], .int .i64 0]) (by simp [results, Tryz.results11, go_sem, f0, f1, f2]) rfl ⟨rfl, ?_⟩
  exact ((b3.out.setCell (Nat.le_refl _) _).setCell (Nat.le_refl _) _).setCell (Nat.le_refl _) _

set_option maxRecDepth 100000 in
set_option maxHeartbeats 1000000 in
theorem r6_Two_some (w : World) (a b : ByteArray) (n p : Nat) (o : Option (Nat × Nat)) (z1 : Bool) (z2 z3 : Int) (ha : a.size ≤ 100000) (hb : b.size ≤ 256) (he : gE a b = 0) (hn : n ≤ 256) (hp : p ≤ b.size) (hS : s1 (vQ a).num.natAbs (vQ a).den b.data.toList 0 0 = some (n, p))
    (ho : s1 (vQ a).num.natAbs (vQ a).den (b.data.toList.drop p) 0 0 = o) (hz : (o = none ∧ z1 = false ∧ z2 = 0 ∧ z3 = (b.size : Nat)) ∨ (∃ k q : Nat, o = some (k, q) ∧ k ≤ 256 ∧ p + q ≤ b.size ∧ z1 = true ∧ z2 = (n : Int) - k ∧ z3 = (p + q : Nat))) :
    Calls Tryz.prog 11 #[.string a, .string b] w fun e w' => e = .returned (.tuple #[.agg #[.bool z1, .int .i64 z2, .int .i64 z3], .int .i64 0]) ∧ Below w.heap.size w w' := by
  have R0 := fun V => hid (r6_both V a b (by omega) (by omega))
  rw [he] at R0
  have R1 := fun V => hid (r2_Read V a (by omega))
  have hg := (gE_ok he).1
  obtain ⟨hq, hnum, hlt, hdig⟩ := ratio_is hg
  have RS := fun V v (hV : IsQ .i64 V v (vQ a)) => hid (r6_Series V v (vQ a) b (by omega) hV (ratio_lb hg).1 (ratio_lb hg).2 hlt)
  rw [hS] at RS
  have HQ := hid hq
  have RS' : ∀ V v, IsQ .i64 V v (vQ a) → Hid (Calls Tryz.prog 30 #[v, .string b] V fun e w' => e = .returned (.tuple #[.int .i64 (n : Nat), .int .i64 (p : Nat), .bool true]) ∧ Below V.heap.size V w') := RS
  clear RS
  have RS := RS'
  have hx : (b.extract p b.size).data.toList = b.data.toList.drop p := by
    rw [extract_list]
    refine List.take_of_length_le ?_
    rw [List.length_drop]
    simp
  have RS2 := fun V v (hV : IsQ .i64 V v (vQ a)) => hid (r6_Series V v (vQ a) (b.extract p b.size) (by simp; omega) hV (ratio_lb hg).1 (ratio_lb hg).2 hlt)
  obtain ⟨x1v, x2v, x3v, hv⟩ : ∃ (y1 y2 : Int) (y3 : Bool), serV o = .tuple #[.int .i64 y1, .int .i64 y2, .bool y3] := by cases o <;> exact ⟨_, _, _, rfl⟩
  rw [hx, ho, hv] at RS2
  have HVV := hid hv
  clear hv
  have HZ := hid hz; have HB := hid hb; have HNN := hid hn
  clear RS' ha hb he hg hq hnum hlt hdig hS ho hx hz hn
  have x0 := hid (Blk.new w #[.bool false, .int .i64 0, .int .i64 0] 26)
  have b0 := hid ((Below.refl w.heap.size w).alloc (Nat.le_refl _) (.cells #[.bool false, .int .i64 0, .int .i64 0] 26))
  go_enter Tryz.func11, Tryz.ntmps11
  go_wp2_with fail
  refine (R0 _).out.mono ?_; rintro e w1 ⟨rfl, hb1⟩
  have x1 := hid (x0.out.call hb1); have b1 := hid (bnext b0.out hb1)
  clear hb1
  go_wp2_with fail
  refine (R1 _).out.mono ?_; rintro e w2 ⟨hr, hb2⟩
  obtain ⟨pm, pa, pn, pc, pa', pn', pc', rfl, h1, -⟩ := hr.open
  have hqA := h1 HQ.out
  rw [HQ.out]
  have ba := (Below.refl w2.heap.size w2).alloc (Nat.le_refl _) (.cells #[.bool pm, .slice pa pn pc, .slice pa' pn' pc'] 51)
  have x2 := hid ((x1.out.call hb2).call ba); have b2 := hid (bnext (bnext b1.out hb2) ba); have q2 := hid (hqA.call ba)
  have y2 := hid (Blk.new w2 #[.bool pm, .slice pa pn pc, .slice pa' pn' pc'] 51)
  have g0 := y2.out.cell 0
  have g1 := y2.out.cell 1
  have g2 := y2.out.cell 2
  simp at g0 g1 g2
  clear hr hb2 h1 hqA ba
  go_wp2_with fail
  refine (RS _ _ q2.out).out.mono ?_; rintro e w3 ⟨rfl, hb3⟩
  have x3 := hid (x2.out.call hb3); have b3 := hid (bnext b2.out hb3)
  have y3 := hid (y2.out.call hb3); have q3 := hid (q2.out.call hb3)
  clear hb3 g0 g1 g2
  have g0 := y3.out.cell 0
  have g1 := y3.out.cell 1
  have g2 := y3.out.cell 2
  simp at g0 g1 g2
  have i0 : (0 : Int) ≤ (p : Int) := by omega
  have i1 : (p : Int) ≤ (b.size : Int) := by omega
  go_wp2_with fail
  obtain ⟨gA, hgA⟩ : ∃ g, w2.heap.size = g := ⟨_, rfl⟩
  rw [hgA] at g0 g1 g2 y3 ⊢
  clear hgA
  have KK : Hid (∀ w', Below w3.heap.size w3 w' → w'.cell? ⟨gA, 0, none⟩ = some (.bool pm) ∧ w'.cell? ⟨gA, 1, none⟩ = some (.slice pa pn pc) ∧ w'.cell? ⟨gA, 2, none⟩ = some (.slice pa' pn' pc')) := fun w' hb => by
    have y := y3.out.call hb
    exact ⟨y.cell 0, y.cell 1, y.cell 2⟩
  go_region_held3 (fun w' => w'.cell? ⟨gA, 0, none⟩ = some (.bool pm) ∧ w'.cell? ⟨gA, 1, none⟩ = some (.slice pa pn pc) ∧ w'.cell? ⟨gA, 2, none⟩ = some (.slice pa' pn' pc'))
    (first
      | exact KK.out _ (Below.refl _ _).drew
      | exact KK.out _ cc.out)
    (first
      | (go_at_call 30; refine (RS2 _ _ (q3.out.call (Below.refl _ _).drew)).out.mono ?_; rintro e w4 ⟨rfl, hb4⟩; have cc := hid (bnext (Below.refl _ _).drew hb4)))
  have x4 := hid (x3.out.call cc.out); have b4 := hid (bnext b3.out cc.out)
  clear hb4 cc KK g0 g1 g2
  rcases HZ.out with ⟨rfl, rfl, rfl, rfl⟩ | ⟨k, q, rfl, hk, hpq, rfl, rfl, rfl⟩
  · have hv := HVV.out
    simp [serV] at hv
    obtain ⟨rfl, rfl, rfl⟩ := hv
    clear HVV
    have d0 := x4.out.cell 0
    have d1 := x4.out.cell 1
    have d2 := x4.out.cell 2
    have e0 := x4.out.free 0
    have e1 := x4.out.free 1
    have e2 := x4.out.free 2
    simp at d0 d1 d2
    go_wp2_with fail
    have s3 := ((x4.out.set 0 (.bool false)).set 1 (.int .i64 0)).set 2 (.int .i64 (b.size : Nat))
    have f0 := s3.cell 0
    have f1 := s3.cell 1
    have f2 := s3.cell 2
    simp at f0 f1 f2
    refine bodyPost_ret (v := .tuple #[.agg #[.bool false, .int .i64 0, .int .i64 (b.size : Nat)], .int .i64 0]) (by simp [results, Tryz.results11, go_sem, f0, f1, f2]) rfl ⟨rfl, ?_⟩
    exact ((b4.out.setCell (Nat.le_refl _) _).setCell (Nat.le_refl _) _).setCell (Nat.le_refl _) _
  · have hv := HVV.out
    simp [serV] at hv
    obtain ⟨rfl, rfl, rfl⟩ := hv
    clear HVV
    have w1 : IntKind.i64.wrap ((n : Int) - (k : Nat)) = (n : Int) - k := by have := HNN.out; rw [IntWalk.i64_in _ ⟨by omega, by omega⟩]
    have w2 : IntKind.i64.wrap ((p : Int) + (q : Nat)) = ((p + q : Nat) : Int) := by have := HB.out; rw [IntWalk.i64_in _ ⟨by omega, by omega⟩]; omega
    have d0 := x4.out.cell 0
    have d1 := x4.out.cell 1
    have d2 := x4.out.cell 2
    have e0 := x4.out.free 0
    have e1 := x4.out.free 1
    have e2 := x4.out.free 2
    simp at d0 d1 d2
    go_wp2_with fail
    have s3 := ((x4.out.set 0 (.bool true)).set 1 (.int .i64 ((n : Int) - (k : Nat)))).set 2 (.int .i64 ((p + q : Nat) : Int))
    have f0 := s3.cell 0
    have f1 := s3.cell 1
    have f2 := s3.cell 2
    simp at f0 f1 f2
    refine bodyPost_ret (v := .tuple #[.agg #[.bool true, .int .i64 ((n : Int) - (k : Nat)), .int .i64 ((p + q : Nat) : Int)], .int .i64 0]) (by simp [results, Tryz.results11, go_sem, f0, f1, f2]) rfl ⟨rfl, ?_⟩
    exact ((b4.out.setCell (Nat.le_refl _) _).setCell (Nat.le_refl _) _).setCell (Nat.le_refl _) _

theorem r6_One (w : World) (a b : ByteArray) (ha : a.size ≤ 100000) (hb : b.size ≤ 100000) :
    Calls Tryz.prog 10 #[.string a, .string b] w fun e w' => e = .returned (.tuple #[d3 (oT a b), .int .i64 (gE a b)]) ∧ Below w.heap.size w w' := by
  by_cases he : gE a b = 0
  · obtain ⟨e1, e2⟩ := ratio_nd (gE_ok he).1
    have hl : b.data.toList.length = b.size := list_size b
    unfold oT
    rw [if_pos he, he, e1, e2]
    unfold oneT
    cases hS : s1 (vQ a).num.natAbs (vQ a).den b.data.toList 0 0 with
    | none =>
      have h := r6_One_none w a b ha hb he hS
      rw [← hl] at h
      exact h
    | some y =>
      obtain ⟨n, p⟩ := y
      exact r6_One_some w a b n p ha hb he hS
  · unfold oT
    rw [if_neg he]
    exact r6_One_bad w a b (by omega) (by omega) he

theorem r6_Two (w : World) (a b : ByteArray) (ha : a.size ≤ 100000) (hb : b.size ≤ 100000) :
    Calls Tryz.prog 11 #[.string a, .string b] w fun e w' => e = .returned (.tuple #[d3 (wT a b), .int .i64 (gE a b)]) ∧ Below w.heap.size w w' := by
  by_cases he : gE a b = 0
  · obtain ⟨e1, e2⟩ := ratio_nd (gE_ok he).1
    have hlt := (ratio_is (gE_ok he).1).2.2.1
    have hs := chk_size (gE_ok he).2
    have hl : b.data.toList.length = b.size := list_size b
    unfold wT
    rw [if_pos he, he, e1, e2]
    unfold twoT
    cases hS : s1 (vQ a).num.natAbs (vQ a).den b.data.toList 0 0 with
    | none =>
      have h := r6_Two_none w a b ha hb he hS
      rw [← hl] at h
      exact h
    | some y =>
      obtain ⟨n, p⟩ := y
      have h2 := s1_le hlt b.data.toList.length 0 0 n p (Nat.zero_le _) (by omega) hS
      have hd := s1_drop hlt (l := b.data.toList) (a := p) (by omega) b.data.toList.length 0 0 (by omega) (by omega)
      rw [Nat.add_zero] at hd
      dsimp only
      rw [hd]
      cases hT : s1 (vQ a).num.natAbs (vQ a).den (b.data.toList.drop p) 0 0 with
      | none =>
        have h := r6_Two_some w a b n p none false 0 (b.size : Nat) ha hs he (by omega) (by omega) hS hT (.inl ⟨rfl, rfl, rfl, rfl⟩)
        rw [← hl] at h
        exact h
      | some z =>
        obtain ⟨k, q⟩ := z
        have h3 := s1_le hlt (b.data.toList.drop p).length 0 0 k q (Nat.zero_le _) (by omega) hT
        rw [List.length_drop] at h3
        exact r6_Two_some w a b n p (some (k, q)) true ((n : Int) - k) ((p + q : Nat) : Int) ha hs he (by omega) (by omega) hS hT (.inr ⟨k, q, rfl, by omega, by omega, rfl, rfl, rfl⟩)
  · unfold wT
    rw [if_neg he]
    exact r6_Two_bad w a b (by omega) (by omega) he
end Go.Proofs.YtikfgddgfddbaaaGreatDoor

/- The walk of GeomCalls. -/
namespace Go.Proofs.YtikfgddgfddbaaaGreatDoor
open Go.RowKit Go.Shelf
open Go.Lib (decDigits nDigits)
set_option linter.unusedVariables false
set_option linter.unusedSimpArgs false

set_option maxRecDepth 100000 in
set_option maxHeartbeats 1000000 in
theorem gl_big (w : World) (a b : ByteArray) (k : Int) (h : 1100 < a.size ∨ (a.size ≤ 1100 ∧ 300 < b.size)) (hL : Lay w) :
    Calls Tryz.prog 4 #[.string a, .string b, .int .i64 k] w fun e w' => e = .returned (.bool true) ∧ Below w.heap.size w w' := by
  have HV := fun V hV => hid (w_lives V hV)
  have HL := hid hL
  clear hL
  rcases h with h | ⟨h, h2⟩
  · have q0 : decide ((1100 : Int) < (a.size : Int)) = true := by simp; omega
    clear h
    go_enter Tryz.func4, Tryz.ntmps4
    go_wp2_with fail
    refine (HV _ HL.out).out.mono ?_; rintro e w1 ⟨rfl, hb1⟩
    have b1 := hid hb1; clear hb1
    go_wp2_with fail
    go_ret
    exact ⟨rfl, b1.out⟩
  · have q0 : decide ((1100 : Int) < (a.size : Int)) = false := by simp; omega
    have q1 : decide ((300 : Int) < (b.size : Int)) = true := by simp; omega
    clear h h2
    go_enter Tryz.func4, Tryz.ntmps4
    go_wp2_with fail
    refine (HV _ HL.out).out.mono ?_; rintro e w1 ⟨rfl, hb1⟩
    have b1 := hid hb1; clear hb1
    go_wp2_with fail
    go_ret
    exact ⟨rfl, b1.out⟩

set_option maxRecDepth 100000 in
set_option maxHeartbeats 4000000 in
theorem gl_ok (w : World) (a b : ByteArray) (k : Int) (ha : a.size ≤ 1100) (hb : b.size ≤ 300) (hL : Lay w) :
    Calls Tryz.prog 4 #[.string a, .string b, .int .i64 k] w fun e w' => e = .returned (.bool true) ∧ Below w.heap.size w w' := by
  have HV := fun V hV => hid (w_lives V hV)
  have c1 := fun V hV => hid (g_One V a b (by omega) (by omega) hV)
  have c2 := fun V => hid (r6_One V a b (by omega) (by omega))
  have c3 := fun V hV => hid (g_Two V a b (by omega) (by omega) hV)
  have c4 := fun V => hid (r6_Two V a b (by omega) (by omega))
  have c5 := fun V hV => hid (g_OneMass V a k (by omega) hV)
  have c6 := fun V => hid (r6_OneMass V a k (by omega))
  have c7 := fun V hV => hid (g_TwoMass V a k (by omega) hV)
  have c8 := fun V => hid (r6_TwoMass V a k (by omega))
  have c9 := fun V hV => hid (g_OneTail V a k (by omega) hV)
  have c10 := fun V => hid (r6_OneTail V a k (by omega))
  have c11 := fun V hV => hid (g_TwoTail V a k (by omega) hV)
  have c12 := fun V => hid (r6_TwoTail V a k (by omega))
  generalize oT a b = o at c1 c2
  generalize wT a b = t at c3 c4
  generalize gE a b = ee at c1 c2 c3 c4
  generalize omB a k = s1 at c5 c6
  generalize omE a k = e1 at c5 c6
  generalize tmB a k = s2 at c7 c8
  generalize tmE a k = e2 at c7 c8
  generalize otB a k = s3 at c9 c10
  generalize otE a k = e3 at c9 c10
  generalize ttB a k = s4 at c11 c12
  generalize ttE a k = e4 at c11 c12
  obtain ⟨o1, o2, o3⟩ := o
  obtain ⟨t1, t2, t3⟩ := t
  simp only [d3] at c1 c2 c3 c4
  have HL := hid hL
  have q0 : decide ((1100 : Int) < (a.size : Int)) = false := by simp; omega
  have q1 : decide ((300 : Int) < (b.size : Int)) = false := by simp; omega
  clear hL ha hb
  go_enter Tryz.func4, Tryz.ntmps4
  go_wp2_with fail
  refine (HV _ HL.out).out.mono ?_; rintro e w1 ⟨rfl, hb1⟩
  have b1 := hid hb1; clear hb1
  go_wp2_with fail
  refine (c1 _ (HL.out.call b1.out)).out.mono ?_; rintro e w2 ⟨rfl, hb2⟩
  have b2 := hid (bnext b1.out hb2); clear hb2
  have X1 := hid (Blk.new w2 #[.bool o1, .int .i64 o2, .int .i64 o3] 26)
  have B2 := hid (b2.out.alloc b2.out.size (.cells #[.bool o1, .int .i64 o2, .int .i64 o3] 26))
  go_wp2_with fail
  refine (c2 _).out.mono ?_; rintro e w3 ⟨rfl, hb3⟩
  have b3 := hid (bnext B2.out hb3); have x1 := hid (X1.out.call hb3); clear hb3
  have X2 := hid (Blk.new w3 #[.bool o1, .int .i64 o2, .int .i64 o3] 26)
  have B3 := hid (b3.out.alloc b3.out.size (.cells #[.bool o1, .int .i64 o2, .int .i64 o3] 26))
  have x1' := hid (x1.out.alloc (.cells #[.bool o1, .int .i64 o2, .int .i64 o3] 26))
  go_wp2_with fail
  refine (c3 _ (HL.out.call B3.out)).out.mono ?_; rintro e w4 ⟨rfl, hb4⟩
  have b4 := hid (bnext B3.out hb4); have y1 := hid (x1'.out.call hb4); have y2 := hid (X2.out.call hb4); clear hb4
  have X3 := hid (Blk.new w4 #[.bool t1, .int .i64 t2, .int .i64 t3] 26)
  have B4 := hid (b4.out.alloc b4.out.size (.cells #[.bool t1, .int .i64 t2, .int .i64 t3] 26))
  have y1' := hid (y1.out.alloc (.cells #[.bool t1, .int .i64 t2, .int .i64 t3] 26))
  have y2' := hid (y2.out.alloc (.cells #[.bool t1, .int .i64 t2, .int .i64 t3] 26))
  go_wp2_with fail
  refine (c4 _).out.mono ?_; rintro e w5 ⟨rfl, hb5⟩
  have b5 := hid (bnext B4.out hb5); have z1 := hid (y1'.out.call hb5); have z2 := hid (y2'.out.call hb5); have z3 := hid (X3.out.call hb5); clear hb5
  have B5 := hid (b5.out.alloc b5.out.size (.cells #[.bool t1, .int .i64 t2, .int .i64 t3] 26))
  have v1 := z1.out.alloc (.cells #[.bool t1, .int .i64 t2, .int .i64 t3] 26)
  have v2 := z2.out.alloc (.cells #[.bool t1, .int .i64 t2, .int .i64 t3] 26)
  have v3 := z3.out.alloc (.cells #[.bool t1, .int .i64 t2, .int .i64 t3] 26)
  have r0 := v1.cell 0
  have r1 := v1.cell 1
  have r2 := v1.cell 2
  have s0 := v2.cell 0
  have s1' := v2.cell 1
  have s2' := v2.cell 2
  have u0 := v3.cell 0
  have u1 := v3.cell 1
  have u2 := v3.cell 2
  simp at r0 r1 r2 s0 s1' s2' u0 u1 u2
  go_wp2_with fail
  refine (c5 _ (HL.out.call B5.out)).out.mono ?_; rintro e w6 ⟨rfl, hb6⟩
  have b6 := hid (bnext B5.out hb6); clear hb6
  go_wp2_with fail
  refine (c6 _).out.mono ?_; rintro e w7 ⟨rfl, hb7⟩
  have b7 := hid (bnext b6.out hb7); clear hb7
  go_wp2_with fail
  refine (c7 _ (HL.out.call b7.out)).out.mono ?_; rintro e w8 ⟨rfl, hb8⟩
  have b8 := hid (bnext b7.out hb8); clear hb8
  go_wp2_with fail
  refine (c8 _).out.mono ?_; rintro e w9 ⟨rfl, hb9⟩
  have b9 := hid (bnext b8.out hb9); clear hb9
  go_wp2_with fail
  refine (c9 _ (HL.out.call b9.out)).out.mono ?_; rintro e w10 ⟨rfl, hb10⟩
  have b10 := hid (bnext b9.out hb10); clear hb10
  go_wp2_with fail
  refine (c10 _).out.mono ?_; rintro e w11 ⟨rfl, hb11⟩
  have b11 := hid (bnext b10.out hb11); clear hb11
  go_wp2_with fail
  refine (c11 _ (HL.out.call b11.out)).out.mono ?_; rintro e w12 ⟨rfl, hb12⟩
  have b12 := hid (bnext b11.out hb12); clear hb12
  go_wp2_with fail
  refine (c12 _).out.mono ?_; rintro e w13 ⟨rfl, hb13⟩
  have b13 := hid (bnext b12.out hb13); clear hb13
  go_wp2_with fail
  go_ret
  exact ⟨rfl, b13.out⟩

theorem w_GeomCalls (w : World) (a b : ByteArray) (k : Int) (hL : Lay w) :
    Calls Tryz.prog 4 #[.string a, .string b, .int .i64 k] w fun e w' => e = .returned (.bool true) ∧ Below w.heap.size w w' := by
  by_cases ha : 1100 < a.size
  · exact gl_big w a b k (.inl ha) hL
  · by_cases hb : 300 < b.size
    · exact gl_big w a b k (.inr ⟨by omega, hb⟩) hL
    · exact gl_ok w a b k (by omega) (by omega) hL
end Go.Proofs.YtikfgddgfddbaaaGreatDoor

/- GeomCalls: the row and the tied card: for every text and every integer the law answers true; conditions: none beyond the row's own. -/
namespace Go.Proofs.YtikfgddgfddbaaaGreatDoor
open Go.ChangeShapes Go.WideShapes Go.ChangeAt Go.RowKit
open Go.ChangeMaps (open_string shut_string)
set_option linter.unusedVariables false

set_option maxRecDepth 100000 in
set_option maxHeartbeats 1000000 in
theorem geomCalls_lifted (os : Os) (started : os.Started) (H : Type) (enc : TypeId × Value → H) (F : Stop.Interp) :
    ReturnsInHanded {} Tryz.checked os 4 .any ((OpenSpec.ofChange Rows.geomCallsSpec).preRow enc Tryz.prog Tryz.f4 Rows.geomCallsRow.domain false Rows.geomCallsRow.laid)
      (((OpenSpec.ofChange Rows.geomCallsSpec).at F).post enc Tryz.prog Tryz.f4 false true false false) := by
  refine returnsInHanded_of_row (C := Tryz.checked) (s := OpenSpec.ofChange Rows.geomCallsSpec) own started (by kernel_rfl) Tryz.func4
    (ChangeSpec.witness_shaped (enc := enc) (C := Tryz.checked) (os := os) (s := Rows.geomCallsSpec) (conds := Rows.geomCallsRow.domain) (fn := Tryz.f4) (X := fun w _ => laidMetH Tryz.prog Rows.geomCallsRow.laid w) false (World.laidAll Tryz.prog os Rows.geomCallsRow.laid) #[.string ByteArray.empty, .string ByteArray.empty, .int .i64 0] 8 (World.laidAll_os _ _ _)
      (World.shaped_of_ZipB (by kernel_rfl) (by kernel_rfl)) (by kernel_rfl) (by kernel_rfl) (by kernel_rfl)
      (by rw [MakeChecks.laidMetH_plain _ _ _ (by kernel_rfl)]; exact laidMet_laidAll _ (by kernel_rfl) (by kernel_rfl))) ?_
  intro W base args ds gs before hval0 hW _ _ _ hL hsh _
  have hval : ∀ (j : Nat) t v, Tryz.f4.params[j]? = some t → args[j]? = some v → Value.okWide Tryz.prog W .any base t v := hval0
  have hW' := hW
  obtain ⟨p, q, hA0, hV, rfl, hfz, hnd⟩ := hW
  have hA : DataW.TrodAll enc Tryz.prog W 0 (fun _ => true) true Tryz.f4.params.toList args.toList ds p := hA0
  rw [Tryz.params4] at hA hval
  obtain ⟨v0, vs0, d0, ds0, p0, q0, hargs, rfl, rfl, h0, r0⟩ := trodAll_cons hA
  obtain ⟨v1, vs1, d1, ds1, p1, q1, rfl, rfl, rfl, h1, r1⟩ := trodAll_cons r0
  obtain ⟨v2, vs2, d2, ds2, p2, q2, rfl, rfl, rfl, h2, r2⟩ := trodAll_cons r1
  obtain ⟨rfl, rfl, rfl⟩ := trodAll_nil r2
  obtain rfl : args = #[v0, v1, v2] := by cases args; simp_all
  obtain ⟨rfl, rfl⟩ := trodVars_none hV
  have k0 := h0
  have lt0 : ∀ x ∈ p0, x.block < W.heap.size := by obtain ⟨m, hm⟩ := k0; exact DataW.trod_lt m _ _ _ hm
  have k1 := h1
  have lt1 : ∀ x ∈ p1, x.block < W.heap.size := by obtain ⟨m, hm⟩ := k1; exact DataW.trod_lt m _ _ _ hm
  have k2 := h2
  have lt2 : ∀ x ∈ p2, x.block < W.heap.size := by obtain ⟨m, hm⟩ := k2; exact DataW.trod_lt m _ _ _ hm
  obtain ⟨a0, rfl, rfl, rfl, w0⟩ := open_string Tryz.underlying22 (hval 0 22 v0 rfl rfl) h0
  obtain ⟨a1, rfl, rfl, rfl, w1⟩ := open_string Tryz.underlying23 (hval 1 23 v1 rfl rfl) h1
  obtain ⟨a2, rfl, rfl, rfl, w2⟩ := open_int Tryz.underlying3 (hval 2 3 v2 rfl rfl) h2
  clear hA0 hval0
  refine (w_GeomCalls W a0 a1 a2 (lay_of hL hsh)).mono fun e W' ⟨he, bel⟩ => ?_
  subst he
  exact ⟨_, rfl, _, _, _, [], _, [], hW', trodAll_mk1 (shut_bool Tryz.underlying4 _), (trodAll_cons_mk (Below.trod laidOut (by kernel_rfl) (of_decide_eq_true (by kernel_rfl)) k0 bel lt0) (trodAll_cons_mk (Below.trod laidOut (by kernel_rfl) (of_decide_eq_true (by kernel_rfl)) k1 bel lt1) (trodAll_cons_mk (Below.trod laidOut (by kernel_rfl) (of_decide_eq_true (by kernel_rfl)) k2 bel lt2) trodAll_mk0))), rfl, bel.frame _, fun h => by cases h⟩

theorem geomCalls_holds : Rows.geomCallsRow.holds Tryz.pinned (OpenSpec.ofChange Rows.geomCallsSpec) :=
  OpenClaim.holds_of_cond 4 Tryz.f4 rfl rfl rfl rfl rfl rfl rfl ⟨rfl, rfl, rfl, rfl, rfl⟩ rfl rfl rfl rfl rfl (by kernel_rfl) Tryz.func4 (by kernel_rfl)
    (of_decide_eq_true (by kernel_rfl)) (by unfold Func.isWrapper; first | (rw [if_pos (by decide +kernel)]; kernel_rfl) | (rw [if_neg (by decide +kernel)]; exact ⟨rfl, rfl⟩))
    (fun os started H enc _ F0 => by rw [OpenClaim.pre_eq_preRow]; exact geomCalls_lifted os started H enc F0)

theorem geomCalls_card : Rows.GeomCallsCardSaid :=
  Claim7.holds_tied_plain_at .later [] [.data, .data, .data, .data, .sentinel, .sentinel, .pinned] true Rows.geomCallsCard.stood.harness true
    geomCalls_holds (fun _ h => by cases h) (by kernel_rfl) (fun _ h => by cases h) geomCalls_row_tie rfl ⟨rfl, rfl⟩ (by kernel_rfl) rfl
    (fun f fn hf hfn => by
      obtain rfl : f = 4 := Option.some.inj ((show Tryz.prog.funcNamed "privhouse/privhouselaw06.GeomCalls" = some 4 by kernel_rfl).symm.trans hf) |>.symm
      obtain rfl : fn = Tryz.f4 := (Option.some.inj (Tryz.func4.symm.trans hfn)).symm
      exact ⟨by kernel_rfl, fun j t ht => by
        rw [Tryz.params4] at ht
        have hm : t ∈ [22, 23, 3] := by simpa using Array.mem_of_getElem? ht
        have hall : ([22, 23, 3].all fun u => !Tryz.prog.wantsStandIn u) = true := by kernel_rfl
        exact (show Tryz.prog.wantsStandIn t = false by simpa using List.all_eq_true.1 hall t hm)⟩)
    (by kernel_rfl)
#print axioms geomCalls_card
end Go.Proofs.YtikfgddgfddbaaaGreatDoor
