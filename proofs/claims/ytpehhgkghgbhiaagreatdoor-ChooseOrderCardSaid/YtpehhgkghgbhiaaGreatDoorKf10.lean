/- ChoosePrivate: the row and the tied card: for every input the law answers true; conditions: none beyond the row's own. -/
import Derived.Test.YtpehhgkghgbhiaaGreatDoorKf9
import Derived.Deep.DeepCutAuto
import Derived.Deep.AppendLies
import Derived.DataShut
namespace Go.Proofs.YtpehhgkghgbhiaaGreatDoor
open Go.RowKit
open Go.Lib (decDigits nDigits)
set_option linter.unusedVariables false
set_option linter.unusedSimpArgs false

set_option maxRecDepth 100000 in
set_option maxHeartbeats 2000000 in
theorem r2_Order (w : World) (v u : Value) (p q : Rat) (hp : IsQ .i64 w v p) (hq : IsQ .i64 w u q) (dp : Dig 4000 p) (dq : Dig 4000 q) :
    Calls Tryz.prog 50 #[v, u] w fun e w' => e = .returned (.int .i64 (ordQ p q)) ∧ Below w.heap.size w w' := by
  have HO := fun V v u hp hq => hid (op_plus V v u p (-q) hp hq dp (dig_neg dq))
  have HG := fun V v h => hid (r2_Negative V v q h)
  have HP := hid hp; have HQ := hid hq
  obtain ⟨m, a, n, c, a', n', c', rfl⟩ := hp.qv
  obtain ⟨m2, b, j, d, b', j', d', rfl⟩ := hq.qv
  rw [show ordQ p q = sgnQ (p + -q) by rw [ordQ, Rat.sub_eq_add_neg]]
  obtain ⟨z, hz⟩ : ∃ z, p + -q = z := ⟨_, rfl⟩
  simp only [hz] at HO
  rw [hz]
  clear hp hq dp dq hz
  go_enter Tryz.func50, Tryz.ntmps50
  go_upto_region 1 with fail
  obtain ⟨W, hW⟩ : ∃ W, (w.alloc (.cells #[.bool m, .slice a n c, .slice a' n' c'] 66)).alloc (.cells #[.bool m2, .slice b j d, .slice b' j' d'] 66) = W := ⟨_, rfl⟩
  have Y0 : Blk W w.heap.size #[.bool m, .slice a n c, .slice a' n' c'] 66 := by rw [← hW]; exact (Blk.new w _ _).alloc _
  have Y1 : Blk W (w.heap.size + 1) #[.bool m2, .slice b j d, .slice b' j' d'] 66 := by rw [← hW]; exact Blk.made _ _ _ (by simp)
  have y0 : Below w.heap.size w W := by rw [← hW]; exact ((Below.refl _ _).alloc (Nat.le_refl _) _).alloc (by simp) _
  rw [hW]
  have KK : Hid (∀ w', Below W.heap.size W w' → w'.cell? ⟨w.heap.size, 0, none⟩ = some (.bool m) ∧ w'.cell? ⟨w.heap.size, 1, none⟩ = some (.slice a n c) ∧ w'.cell? ⟨w.heap.size, 2, none⟩ = some (.slice a' n' c') ∧ w'.cell? ⟨w.heap.size + 1, 0, none⟩ = some (.bool m2) ∧ w'.cell? ⟨w.heap.size + 1, 1, none⟩ = some (.slice b j d) ∧ w'.cell? ⟨w.heap.size + 1, 2, none⟩ = some (.slice b' j' d')) := fun w' hb =>
    ⟨(Y0.call hb).cell 0, (Y0.call hb).cell 1, (Y0.call hb).cell 2, (Y1.call hb).cell 0, (Y1.call hb).cell 1, (Y1.call hb).cell 2⟩
  have Q1 := hid (HP.out.call y0); have Q2 := hid (HQ.out.call y0)
  have HY := hid y0
  clear Y0 Y1 y0 hW
  go_cut [5] (fun s5 wx => ∃ (g : Nat) (a5 : Option Addr) (n5 c5 : Nat) (a6 : Option Addr) (n6 c6 : Nat), s5 = .pointer (some ⟨g, 0, none⟩) ∧ Hid (Blk wx g #[.bool (decide (z.num < 0)), .slice a5 n5 c5, .slice a6 n6 c6] 66) ∧ Hid (n5 = (limbs z.num.natAbs).length) ∧ Hid (Below W.heap.size W wx))
  case first =>
    refine held_plain [0, 1] 4 (fun w' => w'.cell? ⟨w.heap.size, 0, none⟩ = some (.bool m) ∧ w'.cell? ⟨w.heap.size, 1, none⟩ = some (.slice a n c) ∧ w'.cell? ⟨w.heap.size, 2, none⟩ = some (.slice a' n' c') ∧ w'.cell? ⟨w.heap.size + 1, 0, none⟩ = some (.bool m2) ∧ w'.cell? ⟨w.heap.size + 1, 1, none⟩ = some (.slice b j d) ∧ w'.cell? ⟨w.heap.size + 1, 2, none⟩ = some (.slice b' j' d')) (by kernel_rfl) (by kernel_rfl) (by kernel_rfl) (by kernel_rfl) (KK.out _ (Below.refl _ _).drew) ?_
    iterate 2
      refine ⟨_, rfl, ?_⟩
      apply Exists.intro
      refine ⟨.inl ⟨by rfl, ?_⟩, ?_⟩
      · (intro W' hW'; obtain ⟨q1, q2, q3, q4, q5, q6⟩ := hW'; go_simp; try (with_reducible rfl))
      (dsimp only [Act.put]; try simp only [List.setIfInBounds_toArray, List.set_cons_zero, List.set_cons_succ])
    refine held_two (i := 2) (j := 4) (by kernel_rfl) (by rfl) (by rfl) (by rfl) (by rfl) ?_ ?_
    · go_wp2_with fail
      refine (HG _ _ (Q2.out.call (Below.refl _ _).drew)).out.mono ?_; rintro e w3 ⟨⟨v3, rfl, hv3⟩, hb3⟩
      have x3 := hid (show Below W.heap.size W w3 from (Below.refl _ _).drew.trans hb3)
      have N3 := hid hv3
      obtain ⟨m5, a5, n5, c5, a6, n6, c6, rfl⟩ := hv3.qv
      clear hb3 hv3
      go_wp2_with fail
      refine ⟨KK.out _ x3.out, ?_⟩
      refine held_two (i := 3) (j := 4) (by kernel_rfl) (by rfl) (by rfl) (by rfl) (by rfl) ?_ ?_
      · go_wp2_with fail
        refine (HO _ _ _ (Q1.out.call x3.out) N3.out).out.mono ?_; rintro e w4 ⟨⟨v4, rfl, hv4⟩, hb4⟩
        have x4 := hid (bnext x3.out hb4)
        obtain ⟨N, D, rfl, h1, h2⟩ := hv4.ex
        obtain ⟨a7, c7, rfl, -⟩ := h1.openI
        obtain ⟨a8, c8, rfl, -⟩ := h2.openI
        clear hb4 hv4 h1 h2
        go_wp2_with fail
        refine ⟨KK.out _ x4.out, ?_⟩
        refine held_one (i := 4) (by kernel_rfl) (by rfl) (by rfl) ?_
        go_wp2_with fail
        refine ⟨KK.out _ (x4.out.alloc x4.out.size _), ?_⟩
        refine held_one (i := 5) (by kernel_rfl) (by rfl) (by rfl) ?_
        go_wp2_with fail
        refine ⟨KK.out _ (x4.out.alloc x4.out.size _), ?_⟩
        refine wpAnyH_done (by kernel_rfl) ?_ _
        simp only [Only]
        go_wp2_with fail
        go_meet
        exact ⟨_, _, _, _, _, _, _, rfl, Blk.new w4 _ _, rfl, x4.out.alloc x4.out.size _⟩
      · go_wp2_with fail
        have A3 := hid (x3.out.alloc x3.out.size (.cells #[.bool false, .slice none 0 0, .slice none 0 0] 66))
        have b3 := hid (Blk.new w3 #[.bool false, .slice none 0 0, .slice none 0 0] 66)
        have n3 := hid (N3.out.call ((Below.refl _ _).alloc (Nat.le_refl _) (.cells #[.bool false, .slice none 0 0, .slice none 0 0] 66)))
        refine ⟨KK.out _ A3.out, ?_⟩
        refine held_one (i := 3) (by kernel_rfl) (by rfl) (by rfl) ?_
        go_wp2_with fail
        refine (HO _ _ _ (Q1.out.call A3.out) n3.out).out.mono ?_; rintro e w4 ⟨⟨v4, rfl, hv4⟩, hb4⟩
        have x4 := hid (bnext A3.out hb4)
        have b4 := hid (b3.out.call hb4)
        obtain ⟨N, D, rfl, h1, h2⟩ := hv4.ex
        obtain ⟨a7, c7, rfl, -⟩ := h1.openI
        obtain ⟨a8, c8, rfl, -⟩ := h2.openI
        have t0 := b4.out.cell 0
        have t1 := b4.out.cell 1
        have t2 := b4.out.cell 2
        have t3 := b4.out.free 0
        have t4 := b4.out.free 1
        have t5 := b4.out.free 2
        simp at t0 t1 t2
        have ge := hid (show W.heap.size ≤ w3.heap.size from x3.out.size)
        obtain ⟨k7, hk7⟩ : ∃ k, (limbs z.num.natAbs).length = k := ⟨_, rfl⟩
        obtain ⟨k8, hk8⟩ : ∃ k, (limbs z.den).length = k := ⟨_, rfl⟩
        obtain ⟨mz, hmz⟩ : ∃ m, decide (z.num < 0) = m := ⟨_, rfl⟩
        rw [hk7, hk8, hmz]
        have HK7 := hid hk7; have HMZ := hid hmz
        clear hb4 hv4 h1 h2 hk7 hk8 hmz
        go_wp2_with fail
        refine ⟨KK.out _ x4.out, ?_⟩
        refine held_one (i := 5) (by kernel_rfl) (by rfl) (by rfl) ?_
        go_wp2_with fail
        obtain ⟨s1, s2⟩ := set3 b4.out mz a7 a8 k7 c7 k8 c8
        have x5 := hid (below_set (below_set (below_set x4.out (i := 0) ge.out (.bool mz)) (i := 1) ge.out (.slice a7 k7 c7)) (i := 2) ge.out (.slice a8 k8 c8))
        have S2 := hid s2
        clear s1 s2 t0 t1 t2 t3 t4 t5
        refine ⟨KK.out _ x5.out, ?_⟩
        refine wpAnyH_done (by kernel_rfl) ?_ _
        simp only [Only]
        go_wp2_with fail
        go_meet
        exact ⟨_, _, _, _, _, _, _, rfl, by rw [HMZ.out]; exact S2, HK7.out.symm, x5⟩
    · go_wp2_with fail
      have A0 := hid (show Below W.heap.size W (W.alloc (.cells #[.bool false, .slice none 0 0, .slice none 0 0] 66)).drew from ((Below.refl _ _).alloc (Nat.le_refl _) _).drew)
      have b0 := hid (show Blk (W.alloc (.cells #[.bool false, .slice none 0 0, .slice none 0 0] 66)).drew W.heap.size #[.bool false, .slice none 0 0, .slice none 0 0] 66 from Blk.new W _ _)
      refine ⟨KK.out _ A0.out, ?_⟩
      refine held_one (i := 2) (by kernel_rfl) (by rfl) (by rfl) ?_
      go_wp2_with fail
      refine (HG _ _ (Q2.out.call A0.out)).out.mono ?_; rintro e w3 ⟨⟨v3, rfl, hv3⟩, hb3⟩
      have x3 := hid (A0.out.trans (hb3.mono A0.out.size))
      have b3 := hid (b0.out.call hb3)
      have N3 := hid hv3
      obtain ⟨m5, a5, n5, c5, a6, n6, c6, rfl⟩ := hv3.qv
      clear hb3 hv3
      go_wp2_with fail
      refine ⟨KK.out _ x3.out, ?_⟩
      refine held_one (i := 3) (by kernel_rfl) (by rfl) (by rfl) ?_
      go_wp2_with fail
      refine (HO _ _ _ (Q1.out.call x3.out) N3.out).out.mono ?_; rintro e w4 ⟨⟨v4, rfl, hv4⟩, hb4⟩
      have x4 := hid (bnext x3.out hb4)
      have b4 := hid (b3.out.call hb4)
      obtain ⟨N, D, rfl, h1, h2⟩ := hv4.ex
      obtain ⟨a7, c7, rfl, -⟩ := h1.openI
      obtain ⟨a8, c8, rfl, -⟩ := h2.openI
      have t0 := b4.out.cell 0
      have t1 := b4.out.cell 1
      have t2 := b4.out.cell 2
      have t3 := b4.out.free 0
      have t4 := b4.out.free 1
      have t5 := b4.out.free 2
      simp at t0 t1 t2
      have ge := hid (Nat.le_refl W.heap.size)
      obtain ⟨k7, hk7⟩ : ∃ k, (limbs z.num.natAbs).length = k := ⟨_, rfl⟩
      obtain ⟨k8, hk8⟩ : ∃ k, (limbs z.den).length = k := ⟨_, rfl⟩
      obtain ⟨mz, hmz⟩ : ∃ m, decide (z.num < 0) = m := ⟨_, rfl⟩
      rw [hk7, hk8, hmz]
      have HK7 := hid hk7; have HMZ := hid hmz
      clear hb4 hv4 h1 h2 hk7 hk8 hmz
      go_wp2_with fail
      refine ⟨KK.out _ x4.out, ?_⟩
      refine held_one (i := 5) (by kernel_rfl) (by rfl) (by rfl) ?_
      go_wp2_with fail
      obtain ⟨s1, s2⟩ := set3 b4.out mz a7 a8 k7 c7 k8 c8
      have x5 := hid (below_set (below_set (below_set x4.out (i := 0) ge.out (.bool mz)) (i := 1) ge.out (.slice a7 k7 c7)) (i := 2) ge.out (.slice a8 k8 c8))
      have S2 := hid s2
      clear s1 s2 t0 t1 t2 t3 t4 t5
      refine ⟨KK.out _ x5.out, ?_⟩
      refine wpAnyH_done (by kernel_rfl) ?_ _
      simp only [Only]
      go_wp2_with fail
      go_meet
      exact ⟨_, _, _, _, _, _, _, rfl, by rw [HMZ.out]; exact S2, HK7.out.symm, x5⟩
  case rest =>
    obtain ⟨g, a5, n5, c5, a6, n6, c6, rfl, hB, hn, hW⟩ := hcut
    have r0 := hB.out.cell 0
    have r1 := hB.out.cell 1
    simp at r0 r1
    have yz := hid (bnext HY.out hW.out)
    by_cases h1 : z.num = 0
    · have es : Hid (sgnQ z = 0) := by show sgnQ z = 0; rw [sgnQ, if_pos h1]
      obtain rfl : n5 = 0 := by rw [hn.out, h1]; exact limbs_none.2 rfl
      clear h1
      go_wp2_with fail
      go_ret
      exact ⟨by rw [es.out]; rfl, yz.out⟩
    · have h2 : n5 ≠ 0 := fun e => h1 (by rw [hn.out] at e; have := limbs_none.1 e; omega)
      have q1 : ((n5 : Int) == 0) = false := by simp; omega
      obtain ⟨mm, hmm⟩ : ∃ m, decide (z.num < 0) = m := ⟨_, rfl⟩
      have es : sgnQ z = if mm = true then -1 else 1 := by
        rw [sgnQ, if_neg h1, ← hmm]; simp
      have ES := hid es
      rw [hmm] at r0
      clear h1 h2 es hmm
      cases mm
      all_goals
        go_wp2_with fail
        go_ret
        exact ⟨by rw [ES.out]; rfl, yz.out⟩

set_option maxRecDepth 100000 in
set_option maxHeartbeats 1000000 in
theorem r2_Cmp (w : World) (s t : ByteArray) (hs : s.size ≤ 1000000) (ht : t.size ≤ 1000000) :
    Calls Tryz.prog 15 #[.string s, .string t] w fun e w' => e = .returned (.tuple #[.int .i64 (cmB s t), .int .i64 (cmE s t)]) ∧ Below w.heap.size w w' := by
  have R1 := fun V => hid (r2_two V s t hs ht)
  clear hs ht
  by_cases h0 : qE s = 0 ∧ qE t = 0
  · have eB : cmB s t = ordQ (vQ s) (vQ t) := by rw [cmB, if_pos h0]
    have eE : cmE s t = 0 := by rw [cmE, if_pos h0.1, h0.2]
    rw [eB, eE]
    have ds := dig_of_fits (vQ_fits h0.1)
    have dt := dig_of_fits (vQ_fits h0.2)
    have HO := fun V v u hp hq => hid (r2_Order V v u (vQ s) (vQ t) hp hq ds dt)
    obtain ⟨o, ho⟩ : ∃ x, ordQ (vQ s) (vQ t) = x := ⟨_, rfl⟩
    rw [ho] at HO ⊢
    have H0 := hid h0
    clear eB eE ds dt ho h0
    go_enter Tryz.func15, Tryz.ntmps15
    go_wp2_with fail
    refine (R1 _).out.mono ?_; rintro e w1 ⟨⟨m, a, n, c, a', n', c', m2, b, j, d, b', j', d', rfl, hq⟩, hb1⟩
    obtain ⟨q1, q2⟩ := hq H0.out.1 H0.out.2
    rw [if_pos H0.out.1, H0.out.2]
    have b0 := ((Below.refl w1.heap.size w1).alloc (Nat.le_refl _) (.cells #[.bool m, .slice a n c, .slice a' n' c'] 66)).alloc (by simp) (.cells #[.bool m2, .slice b j d, .slice b' j' d'] 66)
    have y2 := hid (bnext hb1 b0)
    have H1 := HO _ _ _ (q1.call b0) (q2.call b0)
    clear hb1 q1 q2 hq b0 HO R1
    go_wp2_with fail
    refine H1.out.mono ?_; rintro e w2 ⟨rfl, hb2⟩
    have y3 := hid (bnext y2.out hb2)
    clear hb2 H1
    go_wp2_with fail
    go_ret2
    exact ⟨rfl, y3.out⟩
  · obtain ⟨n0, -, -⟩ := op2_err (f := (· - ·)) h0
    rw [cmB, if_neg h0, cmE]
    obtain ⟨x, hx⟩ : ∃ x, (if qE s = 0 then qE t else qE s) = x := ⟨_, rfl⟩
    rw [hx] at n0 ⊢
    have q0 : (x != 0) = true := by simpa using n0
    have HX := hid hx
    clear h0 n0 hx
    go_enter Tryz.func15, Tryz.ntmps15
    go_wp2_with fail
    refine (R1 _).out.mono ?_; rintro e w1 ⟨⟨m, a, n, c, a', n', c', m2, b, j, d, b', j', d', rfl, -⟩, hb1⟩
    rw [HX.out]
    have y2 := hid ((hb1.alloc hb1.size (.cells #[.bool m, .slice a n c, .slice a' n' c'] 66)).alloc (Nat.le_trans hb1.size (by simp)) (.cells #[.bool m2, .slice b j d, .slice b' j' d'] 66))
    clear hb1
    go_wp2_with fail
    go_ret2
    exact ⟨rfl, y2.out⟩
end Go.Proofs.YtpehhgkghgbhiaaGreatDoor

/- Walks: the reference's Pow at a number from 0 on and an exponent from 0 on. -/
namespace Go.Proofs.YtpehhgkghgbhiaaGreatDoor
open Go.RowKit
open Go.Lib (decDigits nDigits)
set_option linter.unusedVariables false
set_option linter.unusedSimpArgs false

theorem pow_nn {q : Rat} (h : 0 ≤ q.num) (n : Nat) : (q ^ n).num.natAbs = q.num.natAbs ^ n ∧ (q ^ n).den = q.den ^ n ∧ decide ((q ^ n).num < 0) = false := by
  have h1 : 0 ≤ q.num ^ n := Int.pow_nonneg h
  refine ⟨by rw [Rat.num_pow, Int.natAbs_pow], Rat.den_pow q n, ?_⟩
  rw [Rat.num_pow]
  simpa using h1

set_option maxRecDepth 100000 in
set_option maxHeartbeats 2000000 in
theorem r2_Pow_nat (w : World) (s : ByteArray) (n : Nat) (hs : s.size ≤ 1000000) (hq : qE s = 0) (h0 : 0 ≤ (vQ s).num) (hn : n ≤ 1000000000) :
    Calls Tryz.prog 11 #[.string s, .int .i64 (n : Nat)] w fun e w' => e = .returned (.tuple #[.string (outB (vQ s ^ n)), .int .i64 (outE (vQ s ^ n))]) ∧ Below w.heap.size w w' := by
  have R1 := hid (r2_Read w s hs)
  obtain ⟨p1, p2, p3⟩ := pow_nn h0 n
  have fits := vQ_fits hq
  have P1 := fun V v h => hid (r1_Power V v (vQ s).num.natAbs n h (by unfold ovQ at fits; omega) (by omega))
  have P2 := fun V v h => hid (r1_Power V v (vQ s).den n h (by unfold ovQ at fits; omega) (by omega))
  have PW := fun V v h (h1 : nDigits ((vQ s).num.natAbs ^ n) ≤ 4000) (h2 : nDigits ((vQ s).den ^ n) ≤ 4000) => hid (r2_Write V v (vQ s ^ n) h (by rw [p1]; exact Nat.le_trans (limbs_of_digits h1) (by omega)) (by rw [p2]; exact Nat.le_trans (limbs_of_digits h2) (by omega)))
  have OV := hid (fun (h : 4000 < nDigits ((vQ s).num.natAbs ^ n) ∨ 4000 < nDigits ((vQ s).den ^ n)) => (show outB (vQ s ^ n) = ⟨#[]⟩ ∧ outE (vQ s ^ n) = 5 from by
    have : ovQ (vQ s ^ n) := by unfold ovQ; rw [p1, p2]; exact h
    exact ⟨if_pos this, if_pos this⟩))
  have t1 : decide ((n : Int) < 0) = false := by simp
  have t2 : ((n : Int) == -9223372036854775808) = false := by rw [beq_eq_false_iff_ne]; omega
  have m0 : decide ((vQ s).num < 0) = false := by simpa using h0
  have HQ := hid hq; have HP1 := hid p1; have HP2 := hid p2; have HP3 := hid p3; have HM0 := hid m0
  clear hs hq p1 p2 p3 h0 m0 fits
  go_enter Tryz.func11, Tryz.ntmps11
  go_wp2_with fail
  refine R1.out.mono ?_; rintro e w1 ⟨⟨v, rfl, hv, -⟩, hb1⟩
  obtain ⟨N, D, rfl, hN, hD⟩ := (hv HQ.out).ex
  have HN := hid hN; have HD := hid hD
  obtain ⟨a1, c1, rfl, -⟩ := hN.openI
  obtain ⟨a2, c2, rfl, -⟩ := hD.openI
  rw [HM0.out, HQ.out]
  obtain ⟨k1, hk1⟩ : ∃ k, (limbs (vQ s).num.natAbs).length = k := ⟨_, rfl⟩
  obtain ⟨k2, hk2⟩ : ∃ k, (limbs (vQ s).den).length = k := ⟨_, rfl⟩
  rw [hk1] at HN ⊢
  rw [hk2] at HD ⊢
  have y1 := hid hb1
  have X1 := hid (Blk.new w1 #[.bool false, .slice a1 k1 c1, .slice a2 k2 c2] 66)
  have A1 := hid ((Below.refl w1.heap.size w1).alloc (Nat.le_refl _) (.cells #[.bool false, .slice a1 k1 c1, .slice a2 k2 c2] 66))
  clear hb1 hv hN hD hk1 hk2
  go_wp2_with fail
  refine (P1 _ _ (HN.out.call A1.out)).out.mono ?_
  rintro e w2 ⟨h, hb2⟩
  have X2 := hid (X1.out.call hb2)
  have y2 := hid (bnext (bnext y1.out A1.out) hb2)
  have D2 := hid ((HD.out.call A1.out).call hb2)
  have r2 := X2.out.cell 2
  simp at r2
  rcases h with ⟨d1, v3, rfl, hv3⟩ | ⟨d1, rfl⟩
  · have N2 := hid hv3; have DD1 := hid d1
    obtain ⟨a3, c3, rfl, -⟩ := hv3.openI
    obtain ⟨k3, hk3⟩ : ∃ k, (limbs ((vQ s).num.natAbs ^ n)).length = k := ⟨_, rfl⟩
    rw [hk3] at N2 ⊢
    clear hb2 hv3 d1 hk3
    go_wp2_with fail
    refine (P2 _ _ D2.out).out.mono ?_
    rintro e w3 ⟨h, hb3⟩
    have y3 := hid (bnext y2.out hb3)
    have N3 := hid (N2.out.call hb3)
    rcases h with ⟨d2, v4, rfl, hv4⟩ | ⟨d2, rfl⟩
    · have D3 := hid hv4; have DD2 := hid d2
      obtain ⟨a4, c4, rfl, -⟩ := hv4.openI
      obtain ⟨k4, hk4⟩ : ∃ k, (limbs ((vQ s).den ^ n)).length = k := ⟨_, rfl⟩
      rw [hk4] at D3 ⊢
      have iq : IsQ .i64 w3 (.agg #[.bool false, .slice a3 k3 c3, .slice a4 k4 c4]) (vQ s ^ n) := ⟨.slice a3 k3 c3, .slice a4 k4 c4, by rw [HP3.out], by rw [HP1.out]; exact N3.out, by rw [HP2.out]; exact D3.out⟩
      have IQ := hid iq
      clear hb3 hv4 d2 hk4 iq
      go_wp2_with fail
      refine (PW _ _ IQ.out DD1.out DD2.out).out.mono ?_; rintro e w4 ⟨rfl, hb4⟩
      have y4 := hid (bnext y3.out hb4)
      clear hb4
      go_wp2_with fail
      go_ret2
      exact ⟨rfl, y4.out⟩
    · obtain ⟨o1, o2⟩ := OV.out (.inr d2)
      have O1 := hid o1; have O2 := hid o2
      clear hb3 d2 o1 o2
      go_wp2_with fail
      go_ret2
      exact ⟨by rw [O1.out, O2.out]; rfl, y3.out⟩
  · obtain ⟨o1, o2⟩ := OV.out (.inl d1)
    have O1 := hid o1; have O2 := hid o2
    clear hb2 d1 o1 o2
    go_wp2_with fail
    refine (P2 _ _ D2.out).out.mono ?_
    rintro e w3 ⟨h, hb3⟩
    have y3 := hid (bnext y2.out hb3)
    rcases h with ⟨-, v4, rfl, hv4⟩ | ⟨-, rfl⟩
    all_goals
      try obtain ⟨a4, c4, rfl, -⟩ := hv4.openI
      try clear hv4
      clear hb3
      go_wp2_with fail
      go_ret2
      exact ⟨by rw [O1.out, O2.out]; rfl, y3.out⟩
end Go.Proofs.YtpehhgkghgbhiaaGreatDoor

/- append onto a slice of the call's own: the elements that were there stay readable where they lay. No walk. -/
namespace Go.Proofs.YtpehhgkghgbhiaaGreatDoor
open Go.RowKit
set_option linter.unusedVariables false

theorem run_append_keep {P : Program} (w : World) (base : Nat) (t ty e : TypeId) (i : TypeInfo) (z : Value) (size bytes : Nat) (ht : P.underlying t = some (.slice e)) (hi : P.info? e = some i) (hz : i.zero = some z)
    (hsize : i.size = size) (hby : i.bytes = bytes) (hzs : z.cells.size = size) (hsz : 0 < size) (v : Value) (n : Nat) (xs : List Value) (hown : w.ownsRow base e size v n xs)
    (a : Addr) (m c : Nat) (news : List Value) (hl : news.length = m * size) (hnews : ∀ j u, news[j]? = some u → w.cell? (a.add j) = some u) (h1 : ∀ u ∈ news, u.oneCell' = true)
    (h63 : n + m ≤ maxLen) (hbytes : (n + m) * bytes ≤ 140737488355328) (hbase : base ≤ w.heap.size) :
    ∃ v' w', (Builtin.append_ #[t, t] ty #[v, .slice (some a) m c]).run P w = .ok v' w' ∧ w'.ownsRow base e size v' (n + m) (xs ++ news) ∧ w.grownBy w' v.ownBlock ∧
      (v'.ownBlock = v.ownBlock ∨ v'.ownBlock = some w.heap.size) ∧ ∀ g c', v = .slice (some ⟨g, 0, none⟩) n c' → ∀ j, j < n * size → w'.cell? ⟨g, j, none⟩ = w.cell? ⟨g, j, none⟩ := by
  obtain ⟨v', w', hr, k1, k2, -, k4⟩ := run_append_own_at (P := P) w base t ty e i z size bytes ht hi hz hsize hby hzs hsz v n xs hown a m c news hl hnews h1 h63 hbytes hbase
  refine ⟨v', w', hr, k1, k2, k4, ?_⟩
  rintro g c' rfl j hj
  subst hsize
  subst hby
  rcases hown.2 with ⟨q, _⟩ | ⟨g', cap, cur, q, hbg, hg, hnc, hcm, hcs, htake⟩
  · cases q
  · simp only [Value.slice.injEq, Option.some.injEq, Addr.mk.injEq] at q
    obtain ⟨⟨rfl, -, -⟩, -, rfl⟩ := q
    have hsmall : n + m ≤ 9223372036854775807 := by simp only [maxLen] at h63; omega
    by_cases hroom : n + m ≤ c'
    · have hfit : n * i.size + news.length ≤ cur.size := by rw [hl, hcs, ← Nat.add_mul]; exact Nat.mul_le_mul_right _ hroom
      have hr2 := run_append_room (P := P) w t ty e i ht hi g n c' cur hg a m c news hl hnews h1 hroom hfit
      rw [hr] at hr2
      injection hr2 with q1 q2
      rw [q2, cell_of_row _ g j _ e (0, 0) (setRow_heap w g cur _ e _ hg), cell_of_row w g j cur e (0, 0) hg]
      have hlt : j < (cur.toList.take (n * i.size)).length := by rw [List.length_take, Array.length_toList]; omega
      rw [List.getElem?_toArray, List.append_assoc, List.getElem?_append_left hlt, List.getElem?_take, if_pos hj, Array.getElem?_toList]
    · have holds : ∀ j u, xs[j]? = some u → w.cell? ((⟨g, 0, none⟩ : Addr).add j) = some u := hown.cells (g := g) rfl
      have hr2 := run_append_grow (P := P) w t ty e i z ht hi hz ⟨g, 0, none⟩ n c' xs hown.1 holds a m c news hl hnews (by omega) (by omega) (growslice_fits (by omega) hbytes)
      rw [hr] at hr2
      injection hr2 with q1 q2
      rw [q2]
      exact World.cell?_of_block (heap_alloc_old w.drew _ (Array.getElem?_eq_some_iff.1 hg).1)

/-- At a step of a region that draws its order. -/
theorem step_append_keep {P : Program} (w : World) {ops : Array Oper} {o : Oper} {a : Act} {K : Act → World → Prop} {Q : Exit → Act → World → Prop} {E : Prop} (hgd : o.guard = none) (s x : Operand) (t : TypeId)
    (ho : o.op = .call { callee := .builtin .append, args := #[s, x], argTypes := #[t, t] })
    (base : Nat) (e : TypeId) (i : TypeInfo) (z : Value) (size bytes : Nat) (ht : P.underlying t = some (.slice e)) (hi : P.info? e = some i) (hz : i.zero = some z)
    (hsize : i.size = size) (hby : i.bytes = bytes) (hzs : z.cells.size = size) (hsz : 0 < size)
    (v : Value) (n : Nat) (xs : List Value) (hs : a.eval s = v) (hown : w.ownsRow base e size v n xs)
    (ad : Addr) (m c : Nat) (news : List Value) (hx : a.eval x = .slice (some ad) m c) (hl : news.length = m * size) (hnews : ∀ j u, news[j]? = some u → w.cell? (ad.add j) = some u) (h1 : ∀ u ∈ news, u.oneCell' = true)
    (h63 : n + m ≤ maxLen) (hbytes : (n + m) * bytes ≤ 140737488355328) (hbase : base ≤ w.heap.size)
    (h : ∀ v' w', w'.ownsRow base e size v' (n + m) (xs ++ news) → w.grownBy w' v.ownBlock → (v'.ownBlock = v.ownBlock ∨ v'.ownBlock = some w.heap.size) → (∀ g c', v = .slice (some ⟨g, 0, none⟩) n c' → ∀ j, j < n * size → w'.cell? ⟨g, j, none⟩ = w.cell? ⟨g, j, none⟩) → K (a.put o.dst v') w') :
    if Region.wanted o (yielded ops a.tmps) = true then Oper.wp P o a w K Q else E := by
  have hw : Region.wanted o (yielded ops a.tmps) = true := by simp [Region.wanted, hgd]
  rw [if_pos hw]
  obtain ⟨v', w', hr, h2, h3, h4, h5⟩ := run_append_keep (P := P) w base t o.type e i z size bytes ht hi hz hsize hby hzs hsz v n xs hown ad m c news hl hnews h1 h63 hbytes hbase
  unfold Oper.wp execOp
  simp only [ho, resolve, invoke, builtin, Sem.run_bind, Sem.run_pure, Result.andThen_ok, List.map_toArray, List.map_cons, List.map_nil, hs, hx, hr]
  exact h v' w' h2 h3 h4 h5
end Go.Proofs.YtpehhgkghgbhiaaGreatDoor

/- append of a slice that came in (nil too) in a plain region. -/
namespace Go.Proofs.YtpehhgkghgbhiaaGreatDoor
open Go.RowKit
set_option linter.unusedVariables false
set_option linter.unusedSimpArgs false

/-- An append of a slice that came in, nil too. -/
theorem run_append_any {P : Program} (w : World) (base : Nat) (t ty e : TypeId) (i : TypeInfo) (z : Value) (size bytes : Nat) (ht : P.underlying t = some (.slice e)) (hi : P.info? e = some i) (hz : i.zero = some z)
    (hsize : i.size = size) (hby : i.bytes = bytes) (hzs : z.cells.size = size) (hsz : 0 < size)
    (v : Value) (n : Nat) (xs : List Value) (hown : w.ownsRow base e size v n xs) (hv : v ≠ .slice none 0 0)
    (ao : Option Addr) (m c : Nat) (news : List Value) (hl : news.length = m * size) (hnews : ∀ j u, news[j]? = some u → ∃ ad, ao = some ad ∧ w.cell? (ad.add j) = some u) (h1 : ∀ u ∈ news, u.oneCell' = true)
    (h63 : n + m ≤ maxLen) (hbytes : (n + m) * bytes ≤ 140737488355328) (hbase : base ≤ w.heap.size) :
    ∃ v' w', (Builtin.append_ #[t, t] ty #[v, .slice ao m c]).run P w = .ok v' w' ∧ w'.ownsRow base e size v' (n + m) (xs ++ news) ∧ w.grownBy w' v.ownBlock ∧ v' ≠ .slice none 0 0 := by
  cases ao with
  | some ad =>
    obtain ⟨v', w', hr, k1, k2, k3, -⟩ := run_append_own_at (P := P) w base t ty e i z size bytes ht hi hz hsize hby hzs hsz v n xs hown ad m c news hl (fun j u hu => by obtain ⟨ad', e', hc⟩ := hnews j u hu; cases e'; exact hc) h1 h63 hbytes hbase
    exact ⟨v', w', hr, k1, k2, fun e => hv (k3.1 e).1⟩
  | none =>
    have hn : news = [] := by
      cases news with
      | nil => rfl
      | cons u r => obtain ⟨ad, e, _⟩ := hnews 0 u rfl; cases e
    subst hn
    have hm : m = 0 := by
      rcases Nat.eq_zero_or_pos m with h | h
      · exact h
      · have := Nat.mul_pos h hsz; simp at hl; omega
    subst hm
    refine ⟨v, w, ?_, by simpa using hown, ⟨rfl, rfl, rfl, Nat.le_refl _, fun _ _ _ => rfl⟩, hv⟩
    rcases hown.2 with ⟨e, _⟩ | ⟨g, cap, cur, rfl, hb, hg, h1', h2', h3', h4'⟩
    · exact absurd e hv
    · simp [Builtin.append_, run_underlying ht, sizeOf, typeInfo, hi, Builtin.lenOf, Builtin.firstCells, loadCells, loadCellsFrom, storeCells, h1']

theorem wpList_append_any {P : Program} {w : World} {ops : Array Oper} {rest : List Oper} {o : Oper} {a : Act} {Q : Exit → Act → World → Prop} (hgd : o.guard = none) (s x : Operand) (t : TypeId)
    (ho : o.op = .call { callee := .builtin .append, args := #[s, x], argTypes := #[t, t] })
    (base : Nat) (e : TypeId) (i : TypeInfo) (z : Value) (size bytes : Nat) (ht : P.underlying t = some (.slice e)) (hi : P.info? e = some i) (hz : i.zero = some z)
    (hsize : i.size = size) (hby : i.bytes = bytes) (hzs : z.cells.size = size) (hsz : 0 < size)
    (v : Value) (n : Nat) (xs : List Value) (hs : a.eval s = v) (hown : w.ownsRow base e size v n xs) (hv : v ≠ .slice none 0 0)
    (ao : Option Addr) (m c : Nat) (news : List Value) (hx : a.eval x = .slice ao m c) (hl : news.length = m * size) (hnews : ∀ j u, news[j]? = some u → ∃ ad, ao = some ad ∧ w.cell? (ad.add j) = some u) (h1 : ∀ u ∈ news, u.oneCell' = true)
    (h63 : n + m ≤ maxLen) (hbytes : (n + m) * bytes ≤ 140737488355328) (hbase : base ≤ w.heap.size)
    (h : ∀ v' w', w'.ownsRow base e size v' (n + m) (xs ++ news) → w.grownBy w' v.ownBlock → v' ≠ .slice none 0 0 → wpList P ops Q rest (a.put o.dst v') w') :
    wpList P ops Q (o :: rest) a w := by
  refine wpList_plain hgd fun K hK => ?_
  obtain ⟨v', w', hr, h2, h3, h4⟩ := run_append_any (P := P) w base t o.type e i z size bytes ht hi hz hsize hby hzs hsz v n xs hown hv ao m c news hl hnews h1 h63 hbytes hbase
  unfold Oper.wp execOp
  simp only [ho, resolve, invoke, builtin, Sem.run_bind, Sem.run_pure, Result.andThen_ok, List.map_toArray, List.map_cons, List.map_nil, hs, hx, hr]
  exact hK _ _ (h v' w' h2 h3 h4)

theorem owned_below {w W w3 : World} {t : TypeId} {z : Nat} {v : Value} {m : Nat} {vs : List Value} (h : W.ownsRow w.heap.size t z v m vs) (h0 : Below w.heap.size w W) (hg : W.grownBy w3 v.ownBlock) : Below w.heap.size w w3 := by
  refine h0.trans ⟨hg.os, hg.tape, hg.output, hg.size, fun j hj => hg.block j (Nat.lt_of_lt_of_le hj h0.size) fun e => ?_⟩
  have := (h.lt j e.symm).1
  omega

end Go.Proofs.YtpehhgkghgbhiaaGreatDoor

/- Walks: law22.ChoosePrivate. -/
namespace Go.Proofs.YtpehhgkghgbhiaaGreatDoor
open Go.RowKit Go.Shelf
open Go.Lib (decDigits nDigits)
set_option linter.unusedVariables false
set_option linter.unusedSimpArgs false

/-- What the law's pairs of utilities are to each other. -/
def DirU (same : Bool) (S : Nat) (us vs : List Int) : Prop := if same = true then UpU S us vs else NearU S us vs
/-- A change in the right direction. -/
def DirK (same : Bool) (S : Nat) (k : Int) : Prop := k ≤ S ∧ -k ≤ S ∧ (same = true → 0 ≤ k)

theorem DirU.nil (same : Bool) (S : Nat) : DirU same S [] [] := by
  unfold DirU
  split
  · intro i u v hu; simp at hu
  · intro i u v hu; simp at hu
theorem snoc_get {us : List Int} {t x : Int} {i : Nat} (h : (us ++ [t])[i]? = some x) : us[i]? = some x ∨ (i = us.length ∧ x = t) := by
  by_cases hi : i < us.length
  · rw [List.getElem?_append_left hi] at h; exact .inl h
  · rw [List.getElem?_append_right (by omega)] at h
    have : i - us.length = 0 := by
      rcases Nat.eq_zero_or_pos (i - us.length) with h0 | h0
      · exact h0
      · rw [List.getElem?_eq_none (by simp; omega)] at h; cases h
    rw [this] at h
    simp at h
    exact .inr ⟨by omega, h.symm⟩
theorem DirU.snoc {same : Bool} {S S' : Nat} {us vs : List Int} {t k : Int} (h : DirU same S us vs) (hl : us.length = vs.length) (hS : S ≤ S') (hk : DirK same S' k) : DirU same S' (us ++ [t]) (vs ++ [t + k]) := by
  obtain ⟨k1, k2, k3⟩ := hk
  unfold DirU at *
  split
  · rename_i hs
    rw [if_pos hs] at h
    intro i u v hu hv
    have h0 := k3 hs
    rcases snoc_get hu with hu | ⟨h1, rfl⟩ <;> rcases snoc_get hv with hv | ⟨h2, rfl⟩
    · have := h i u v hu hv; omega
    · have := (List.getElem?_eq_some_iff.1 hu).1; omega
    · have := (List.getElem?_eq_some_iff.1 hv).1; omega
    · omega
  · rename_i hs
    rw [if_neg hs] at h
    intro i u v hu hv
    rcases snoc_get hu with hu | ⟨h1, rfl⟩ <;> rcases snoc_get hv with hv | ⟨h2, rfl⟩
    · have := h i u v hu hv; omega
    · have := (List.getElem?_eq_some_iff.1 hu).1; omega
    · have := (List.getElem?_eq_some_iff.1 hv).1; omega
    · omega

/-- Two rows of the call's own, in blocks of their own. -/
structure TwoZ (B : Nat) (W : World) (v1 v2 : Value) (ts os : List Int) : Prop where
  o1 : W.ownsRow B 3 1 v1 ts.length (zs ts)
  o2 : W.ownsRow B 3 1 v2 os.length (zs os)
  ne : ∀ g, v1.ownBlock = some g → v2.ownBlock ≠ some g

theorem TwoZ.nil (B : Nat) (W : World) : TwoZ B W (.slice none 0 0) (.slice none 0 0) [] [] := ⟨World.ownsRow_nil _ _ _ _, World.ownsRow_nil _ _ _ _, fun g h => by simp [Value.ownBlock] at h⟩

theorem TwoZ.below {B : Nat} {W W' : World} {v1 v2 : Value} {ts os : List Int} (h : TwoZ B W v1 v2 ts os) (hb : Below W.heap.size W W') : TwoZ B W' v1 v2 ts os := ⟨owns_call h.o1 hb, owns_call h.o2 hb, h.ne⟩
theorem TwoZ.app1 {B : Nat} {W W' : World} {v1 v1' v2 : Value} {ts os : List Int} {x : Int} (h : TwoZ B W v1 v2 ts os) (hown : W'.ownsRow B 3 1 v1' (ts.length + 1) (zs ts ++ [.int .i64 x])) (hg : W.grownBy W' v1.ownBlock) (hat : v1'.ownBlock = v1.ownBlock ∨ v1'.ownBlock = some W.heap.size) : TwoZ B W' v1' v2 (ts ++ [x]) os := by
  refine ⟨by rw [zs_append, List.length_append]; exact hown, ownsRow_keep h.o2 fun g hg' => hg.block g (h.o2.lt g hg').2 (fun e => h.ne g e.symm hg'), fun g hg1 hg2 => ?_⟩
  rcases hat with e | e
  · exact h.ne g (e ▸ hg1) hg2
  · rw [e] at hg1
    have := (h.o2.lt g hg2).2
    injection hg1 with hg1
    omega
theorem TwoZ.app2 {B : Nat} {W W' : World} {v1 v2 v2' : Value} {ts os : List Int} {x : Int} (h : TwoZ B W v1 v2 ts os) (hown : W'.ownsRow B 3 1 v2' (os.length + 1) (zs os ++ [.int .i64 x])) (hg : W.grownBy W' v2.ownBlock) (hat : v2'.ownBlock = v2.ownBlock ∨ v2'.ownBlock = some W.heap.size) : TwoZ B W' v1 v2' ts (os ++ [x]) := by
  refine ⟨ownsRow_keep h.o1 fun g hg' => hg.block g (h.o1.lt g hg').2 (fun e => h.ne g hg' e.symm), by rw [zs_append, List.length_append]; exact hown, fun g hg1 hg2 => ?_⟩
  rcases hat with e | e
  · exact h.ne g hg1 (e ▸ hg2)
  · rw [e] at hg2
    have := (h.o1.lt g hg1).2
    injection hg2 with hg2
    omega
theorem news_blk {W : World} {g : Nat} {x : Value} {t : TypeId} (h : Blk W g #[x] t) : ∀ j u, [x][j]? = some u → W.cell? ((⟨g, 0, none⟩ : Addr).add j) = some u := fun j u hj => by
  match j, hj with
  | 0, hj =>
    simp at hj
    subst hj
    rw [Addr.add_lit]
    exact h.cell 0
theorem tdiv_bd {x : Int} (h1 : -9223372036854775808 ≤ x) (h2 : x ≤ 9223372036854775807) : -4611686018427387904 ≤ x.tdiv 2 ∧ x.tdiv 2 ≤ 4611686018427387904 := by
  rcases Int.lt_or_le x 0 with h | h
  · obtain ⟨y, rfl⟩ : ∃ y, x = -y := ⟨-x, by omega⟩
    rw [Int.neg_tdiv, Int.tdiv_eq_ediv_of_nonneg (by omega)]
    omega
  · rw [Int.tdiv_eq_ediv_of_nonneg h]
    omega

/-- The factor's exponent, what it bounds. -/
def Dir (same : Bool) (mm : Nat) (ts os : List Int) (b : Nat) (s : ByteArray) (B : Int) : Prop :=
  ∃ m : Nat, m ≤ 6 ∧ (same = false → m = 2 * mm) ∧ (same = true → m = mm) ∧ ∀ (i : Nat) (u v : Int), ts[i]? = some u → os[i]? = some v →
    cwN (vQ s).num.natAbs (vQ s).den b u * ((vQ s).den ^ m * (cwV os s B).sum) ≤ (vQ s).num.natAbs ^ m * cwN (vQ s).num.natAbs (vQ s).den b v * (cwV ts s B).sum ∧
    cwN (vQ s).num.natAbs (vQ s).den b v * ((vQ s).den ^ m * (cwV ts s B).sum) ≤ (vQ s).num.natAbs ^ m * cwN (vQ s).num.natAbs (vQ s).den b u * (cwV os s B).sum
theorem dir_all {same : Bool} {mm : Nat} {ts os : List Int} {b : Nat} {s : ByteArray} {B : Int} (ok : ChOk (vQ s).num.natAbs (vQ s).den b) (hb : B.toNat = b) (hl : ts.length = os.length) (h : DirU same mm ts os) (hmm : mm ≤ 3 := by omega) : Dir same mm ts os b s B := by
  unfold Dir cwV
  rw [hb]
  cases same
  · have hn : NearU mm ts os := by unfold DirU at h; simpa using h
    exact ⟨2 * mm, by omega, fun _ => rfl, (fun h => by cases h), fun i u v hu hv => ⟨near_any ok hl hn hu hv, near_any ok hl.symm hn.swap hv hu⟩⟩
  · have hn : UpU mm ts os := by unfold DirU at h; simpa using h
    exact ⟨mm, by omega, (fun h => by cases h), fun _ => rfl, fun i u v hu hv => ⟨up_first ok hl hn hu hv, up_second ok hl hn hu hv⟩⟩

set_option maxRecDepth 100000 in
set_option maxHeartbeats 4000000 in
theorem cp_over (w : World) (v u : Value) (us cs : List Int) (same : Bool) (s : ByteArray) (B : Int) (hv : Row w v (zs us)) (hu : Row w u (zs cs)) (hs : s.size ≤ 9223372036854775807) (hL : Lay w)
    (h : 12 < us.length ∨ cs.length < us.length ∨ 10 < s.size ∨ 20 < B) :
    Calls Tryz.prog 3 #[v, u, .bool same, .string s, .int .i64 B] w fun e w' => e = .returned (.bool true) ∧ Below w.heap.size w w' := by
  have HLV := hid (w_lives w hL)
  obtain ⟨a, c, rfl, c1, c2, -⟩ := hv.openZ
  obtain ⟨a', c', rfl, c1', c2', -⟩ := hu.openZ
  obtain ⟨N, hN⟩ : ∃ N, us.length = N := ⟨_, rfl⟩
  obtain ⟨M, hM⟩ : ∃ N, cs.length = N := ⟨_, rfl⟩
  rw [hN] at c1 h ⊢
  rw [hM] at c1' h ⊢
  obtain ⟨b1, k1⟩ : ∃ b, decide ((12 : Int) < (N : Int)) = b := ⟨_, rfl⟩
  obtain ⟨b2, k2⟩ : ∃ b, decide (M < N) = b := ⟨_, rfl⟩
  obtain ⟨b3, k3⟩ : ∃ b, decide ((10 : Int) < (s.size : Int)) = b := ⟨_, rfl⟩
  obtain ⟨b4, k4⟩ : ∃ b, decide (20 < B) = b := ⟨_, rfl⟩
  have k5 : (b1 || b2 || b3 || b4) = true := by
    rw [← k1, ← k2, ← k3, ← k4]
    simp only [Bool.or_eq_true, decide_eq_true_eq]
    omega
  clear hv hu hL hN hM h
  cases b1
  · cases b2
    · cases b3
      · obtain rfl : b4 = true := by simpa using k5
        clear k5
        go_enter Tryz.func3, Tryz.ntmps3
        go_wp2_with fail
        refine HLV.out.mono ?_; rintro e w1 ⟨rfl, hb1⟩
        have y1 := hid hb1; clear hb1
        go_wp2_with fail
        go_ret
        exact ⟨rfl, y1.out⟩
      · clear k4 k5
        go_enter Tryz.func3, Tryz.ntmps3
        go_wp2_with fail
        refine HLV.out.mono ?_; rintro e w1 ⟨rfl, hb1⟩
        have y1 := hid hb1; clear hb1
        go_wp2_with fail
        go_ret
        exact ⟨rfl, y1.out⟩
    · clear k3 k4 k5
      go_enter Tryz.func3, Tryz.ntmps3
      go_wp2_with fail
      refine HLV.out.mono ?_; rintro e w1 ⟨rfl, hb1⟩
      have y1 := hid hb1; clear hb1
      go_wp2_with fail
      go_ret
      exact ⟨rfl, y1.out⟩
  · clear k2 k3 k4 k5
    go_enter Tryz.func3, Tryz.ntmps3
    go_wp2_with fail
    refine HLV.out.mono ?_; rintro e w1 ⟨rfl, hb1⟩
    have y1 := hid hb1; clear hb1
    go_wp2_with fail
    go_ret
    exact ⟨rfl, y1.out⟩
end Go.Proofs.YtpehhgkghgbhiaaGreatDoor

/- Walks: law22.ChoosePrivate, its main way. -/
namespace Go.Proofs.YtpehhgkghgbhiaaGreatDoor
open Go.RowKit Go.Shelf
open Go.Lib (decDigits nDigits)
set_option linter.unusedVariables false
set_option linter.unusedSimpArgs false

set_option maxRecDepth 100000 in
set_option maxHeartbeats 8000000 in
theorem cp_main (w : World) (v u : Value) (us cs : List Int) (same : Bool) (s : ByteArray) (B : Int) (hv : Row w v (zs us)) (hu : Row w u (zs cs)) (hi1 : ∀ x ∈ us, -9223372036854775808 ≤ x ∧ x ≤ 9223372036854775807) (hi2 : ∀ x ∈ cs, -9223372036854775808 ≤ x ∧ x ≤ 9223372036854775807) (hL : Lay w)
    (h1 : us.length ≤ 12) (h2 : us.length ≤ cs.length) (h3 : s.size ≤ 10) (h4 : B ≤ 20) :
    Calls Tryz.prog 3 #[v, u, .bool same, .string s, .int .i64 B] w fun e w' => e = .returned (.bool true) ∧ Below w.heap.size w w' := by
  have HLV := hid (w_lives w hL)
  have HV := hid hv; have HU := hid hu; have HL := hid hL
  have PE := fun V x l hV hLV => hid (ch_Exact V x l s B hV (by omega) hLV)
  obtain ⟨i0, hi, hz0, hz1, hz2⟩ := info_parts info_int
  obtain ⟨a, c, rfl, c1, c2, -⟩ := hv.openZ
  obtain ⟨a', c', rfl, c1', c2', -⟩ := hu.openZ
  obtain ⟨N, hN⟩ : ∃ N, us.length = N := ⟨_, rfl⟩
  obtain ⟨M, hM⟩ : ∃ N, cs.length = N := ⟨_, rfl⟩
  have HN := hid hN; have HM := hid hM; have I1 := hid hi1; have I2 := hid hi2
  rw [hN] at c1 h1 h2 HV ⊢
  rw [hM] at c1' h2 HU ⊢
  have k1 : decide ((12 : Int) < (N : Int)) = false := by simp; omega
  have k2 : decide (M < N) = false := by simp; omega
  have k3 : decide ((10 : Int) < (s.size : Int)) = false := by simp; omega
  have k4 : decide (20 < B) = false := by simp; omega
  have HS := hid h3
  clear hv hu hL hN hM h3 hi1 hi2
  go_enter Tryz.func3, Tryz.ntmps3
  go_wp2_with fail
  refine HLV.out.mono ?_; rintro e w1 ⟨rfl, hb1⟩
  have y1 := hid hb1; clear hb1
  go_wp2_with fail
  go_loopw [11, 12, 13, 14] (fun s11 s12 s13 s14 wr => ∃ (i mm : Nat) (ts os : List Int), s14 = .int .i64 i ∧ i ≤ N ∧ s13 = .int .i64 mm ∧ mm ≤ 3 ∧ ts.length = i ∧ os.length = i ∧ Hid (DirU same mm ts os) ∧ Hid (TwoZ w.heap.size wr s11 s12 ts os) ∧ Hid (Below w.heap.size w wr)) (fun s11 s12 s13 s14 wr => N - (intOf s14).toNat)
  case atStart => exact ⟨0, 0, [], [], rfl, Nat.zero_le _, rfl, by omega, rfl, rfl, DirU.nil _ _, TwoZ.nil _ _, y1.out⟩
  case round =>
    obtain ⟨i, mm, ts, os, rfl, hiN, rfl, hmm, hts, hos, hD, hT, hB⟩ := hrel
    have wi : IntKind.i64.wrap ((i : Int) + 1) = ((i + 1 : Nat) : Int) := by rw [IntWalk.i64_in _ ⟨by omega, by omega⟩]; omega
    by_cases hlt : i < N
    · obtain ⟨x, hx⟩ : ∃ x, us[i]? = some x := ⟨_, List.getElem?_eq_getElem (by rw [HN.out]; exact hlt)⟩
      obtain ⟨y, hy⟩ : ∃ x, cs[i]? = some x := ⟨_, List.getElem?_eq_getElem (by rw [HM.out]; omega)⟩
      obtain ⟨g, o, rfl, hg, hc⟩ := HV.out.at (zs_get hx)
      obtain ⟨g', o', rfl, hg', hc'⟩ := HU.out.at (zs_get hy)
      have hcx := (hB.out.cell (p := ⟨g, o + i, none⟩) hg).trans hc
      have hcy := (hB.out.cell (p := ⟨g', o' + i, none⟩) hg').trans hc'
      have bx := I1.out x (List.mem_of_getElem? hx)
      have by' := I2.out y (List.mem_of_getElem? hy)
      obtain ⟨j, hj, PK⟩ := k_Pick wr y 7 (by omega) (by omega) by'.1 by'.2
      have PK := hid PK
      have b1 : (0 : Int) ≤ (i : Int) := by omega
      have b2 : (i : Int) < (N : Int) := by omega
      have b3 : (i : Int) < (M : Int) := by omega
      have HTS := hid hts; have HOS := hid hos
      have bx1 := bx.1; have bx2 := bx.2
      clear hx hy hc' hg' bx by' hts hos
      go_wp2_with fail
      refine PK.out.mono ?_; rintro e w2 ⟨rfl, rfl⟩
      go_upto_if 67 with fail
      go_cut [15] (fun s15 wx => ∃ K : Int, s15 = .int .i64 K ∧ -3 ≤ K ∧ K ≤ 3 ∧ Hid (same = true → 0 ≤ K) ∧ Hid (wr = wx))
      case first =>
        cases same
        · go_wp2_with fail
          all_goals
            go_meet
            exact ⟨_, rfl, by omega, by omega, (fun h => by cases h), rfl⟩
        · go_wp2_with fail
          all_goals
            go_meet
            exact ⟨_, rfl, by omega, by omega, (fun _ => by omega), rfl⟩
      case rest =>
      obtain ⟨K, rfl, hk1, hk2, hk3, hW⟩ := hcut
      obtain rfl := hW.out
      clear hW
      go_upto_region 13 with fail
      go_cut [13] (fun s13 wx => ∃ Y : Int, s13 = .int .i64 Y ∧ (mm : Int) ≤ Y ∧ Y ≤ 3 ∧ K ≤ Y ∧ -K ≤ Y ∧ Hid (wr = wx))
      case first =>
        go_wp2_with fail
        all_goals
          go_meet
          exact ⟨_, rfl, by omega, by omega, by omega, by omega, rfl⟩
      case rest =>
      obtain ⟨Y, rfl, hy1, hy2, hy3, hy4, hW⟩ := hcut
      obtain rfl := hW.out
      clear hW
      obtain ⟨mn, rfl⟩ : ∃ mn : Nat, Y = mn := ⟨Y.toNat, by omega⟩
      -- REGION
      obtain ⟨T, hT0⟩ : ∃ T, x.tdiv 2 = T := ⟨_, rfl⟩
      have hTb := tdiv_bd bx1 bx2
      rw [hT0] at hTb
      have hTb1 := hTb.1; have hTb2 := hTb.2
      have wd : IntKind.i64.wrap (x.tdiv 2) = T := by rw [hT0, IntWalk.i64_in _ ⟨by omega, by omega⟩]
      have wk : IntKind.i64.wrap (T + K) = T + K := IntWalk.i64_in _ ⟨by omega, by omega⟩
      have KK : Hid (∀ W, Below w.heap.size w W → W.cell? ⟨g, o + i, none⟩ = some (.int .i64 x)) := fun W hW => (hW.cell (p := ⟨g, o + i, none⟩) hg).trans hc
      have LE := hid (show w.heap.size ≤ wr.heap.size from hB.out.size)
      have lt1 := hid (fun g h => (hT.out.o1.lt g h).2)
      have lt2 := hid (fun g h => (hT.out.o2.lt g h).2)
      clear hTb hcx hcy hc hg
      go_wp2_with fail
      refine held_plain [0, 1, 2, 3, 4, 5, 8, 9, 10, 11, 12, 13, 14, 15] 6 (fun w' => w'.cell? ⟨g, o + i, none⟩ = some (.int .i64 x)) (by kernel_rfl) (by kernel_rfl) (by kernel_rfl) (by kernel_rfl) (KK.out _ hB.out.drew) ?_
      iterate 14
        refine ⟨_, rfl, ?_⟩
        apply Exists.intro
        refine ⟨.inl ⟨by rfl, ?_⟩, ?_⟩
        · (intro W' hW'; obtain q1 := hW'; go_simp; try (with_reducible rfl))
        (dsimp only [Act.put]; try simp only [List.setIfInBounds_toArray, List.set_cons_zero, List.set_cons_succ])
      refine held_two (i := 6) (j := 16) (by kernel_rfl) (by rfl) (by rfl) (by rfl) (by rfl) ?_ ?_
      · go_wp2_with fail
        have d1 : Below wr.heap.size wr (wr.alloc (.cells #[.int .i64 T] 3)).drew := ((Below.refl _ _).alloc (Nat.le_refl _) _).drew
        have T1 := hid (hT.out.below d1)
        have b1 := hid (hB.out.trans (d1.mono hB.out.size))
        have c1 := hid (show Blk (wr.alloc (.cells #[.int .i64 T] 3)).drew wr.heap.size #[.int .i64 T] 3 from (Blk.new wr _ _).drew)
        clear d1
        refine ⟨KK.out _ b1.out, ?_⟩
        refine held_two (i := 7) (j := 16) (by kernel_rfl) (by rfl) (by rfl) (by rfl) (by rfl) ?_ ?_
        · refine wpList_append_own_at _ rfl _ _ 22 rfl w.heap.size 3 i0 (.int .i64 0) 1 8 Tryz.underlying22 hi hz0 hz1 hz2 rfl (by decide) u11 ts.length (zs ts) rfl T1.out.o1 ⟨wr.heap.size, 0, none⟩ 1 1 [.int .i64 (T)] rfl rfl (news_blk c1.out) (by simp [Value.oneCell']) (by have := HTS.out; have := HOS.out; unfold maxLen; omega) (by have := HTS.out; have := HOS.out; omega) (by exact b1.out.size) ?_
          intro v1' w3 hown hgrow _ hat
          have T3 := hid (T1.out.app1 hown hgrow hat)
          have b3 := hid (owned_below T1.out.o1 b1.out hgrow)
          clear hown hgrow hat
          go_wp2_with fail
          refine ⟨KK.out _ b3.out, ?_⟩
          refine held_one (i := 16) (by kernel_rfl) (by rfl) (by rfl) ?_
          go_wp2_with fail
          have T4 := hid (T3.out.below ((Below.refl _ _).alloc (Nat.le_refl _) (.cells #[.int .i64 (T + K)] 3)))
          have b4 := hid (b3.out.alloc b3.out.size (.cells #[.int .i64 (T + K)] 3))
          have c4 := hid (Blk.new w3 #[.int .i64 (T + K)] 3)
          refine ⟨KK.out _ b4.out, ?_⟩
          refine held_one (i := 17) (by kernel_rfl) (by rfl) (by rfl) ?_
          refine wpList_append_own_at _ rfl _ _ 22 rfl w.heap.size 3 i0 (.int .i64 0) 1 8 Tryz.underlying22 hi hz0 hz1 hz2 rfl (by decide) u12 os.length (zs os) rfl T4.out.o2 ⟨w3.heap.size, 0, none⟩ 1 1 [.int .i64 (T + K)] rfl rfl (news_blk c4.out) (by simp [Value.oneCell']) (by have := HTS.out; have := HOS.out; unfold maxLen; omega) (by have := HTS.out; have := HOS.out; omega) (by exact b4.out.size) ?_
          intro v2' w5 hown hgrow _ hat
          have T5 := hid (T4.out.app2 hown hgrow hat)
          have b5 := hid (owned_below T4.out.o2 b4.out hgrow)
          clear hown hgrow hat
          go_wp2_with fail
          refine ⟨KK.out _ b5.out, ?_⟩
          refine held_more (is := [18, 19]) (g := 0) (by kernel_rfl) rfl (KK.out _ b5.out) (by kernel_rfl) ?_
          iterate 2
            refine ⟨_, rfl, ?_⟩
            apply Exists.intro
            refine ⟨.inl ⟨by rfl, ?_⟩, ?_⟩
            · (intro W' hW'; obtain q1 := hW'; go_simp; try (with_reducible rfl))
            (dsimp only [Act.put]; try simp only [List.setIfInBounds_toArray, List.set_cons_zero, List.set_cons_succ])
          refine wpAnyH_done (by kernel_rfl) ?_ _
          simp only [Only]
          go_wp2_with fail
          go_roundw
          case rel => exact ⟨i + 1, mn, ts ++ [T], os ++ [T + K], by go_num, by omega, rfl, by omega, by rw [List.length_append, HTS.out]; rfl, by rw [List.length_append, HOS.out]; rfl, hD.out.snoc (by rw [HTS.out, HOS.out]) (by omega) ⟨hy3, hy4, hk3.out⟩, T5.out, b5.out⟩
          case measure => simp [intOf] <;> omega
        · go_wp2_with fail
          have d2 : Below wr.heap.size wr ((wr.alloc (.cells #[.int .i64 T] 3)).alloc (.cells #[.int .i64 (T + K)] 3)).drew := (((Below.refl _ _).alloc (Nat.le_refl _) _).alloc (by simp) _).drew
          have T2 := hid (hT.out.below d2)
          have b2 := hid (hB.out.trans (d2.mono hB.out.size))
          have c2 := hid (show Blk ((wr.alloc (.cells #[.int .i64 T] 3)).alloc (.cells #[.int .i64 (T + K)] 3)).drew wr.heap.size #[.int .i64 T] 3 from ((Blk.new wr _ _).alloc _).drew)
          have e2 := hid (show Blk ((wr.alloc (.cells #[.int .i64 T] 3)).alloc (.cells #[.int .i64 (T + K)] 3)).drew (wr.heap.size + 1) #[.int .i64 (T + K)] 3 from (Blk.made _ _ _ (by simp)).drew)
          clear d2
          refine ⟨KK.out _ b2.out, ?_⟩
          refine held_one (i := 7) (by kernel_rfl) (by rfl) (by rfl) ?_
          refine wpList_append_own_at _ rfl _ _ 22 rfl w.heap.size 3 i0 (.int .i64 0) 1 8 Tryz.underlying22 hi hz0 hz1 hz2 rfl (by decide) u11 ts.length (zs ts) rfl T2.out.o1 ⟨wr.heap.size, 0, none⟩ 1 1 [.int .i64 (T)] rfl rfl (news_blk c2.out) (by simp [Value.oneCell']) (by have := HTS.out; have := HOS.out; unfold maxLen; omega) (by have := HTS.out; have := HOS.out; omega) (by exact b2.out.size) ?_
          intro v1' w3 hown hgrow _ hat
          have T3 := hid (T2.out.app1 hown hgrow hat)
          have b3 := hid (owned_below T2.out.o1 b2.out hgrow)
          have e3 := hid (e2.out.grown hgrow (fun e => by have := lt1.out _ e; omega))
          clear hown hgrow hat
          go_wp2_with fail
          refine ⟨KK.out _ b3.out, ?_⟩
          refine held_one (i := 17) (by kernel_rfl) (by rfl) (by rfl) ?_
          refine wpList_append_own_at _ rfl _ _ 22 rfl w.heap.size 3 i0 (.int .i64 0) 1 8 Tryz.underlying22 hi hz0 hz1 hz2 rfl (by decide) u12 os.length (zs os) rfl T3.out.o2 ⟨wr.heap.size + 1, 0, none⟩ 1 1 [.int .i64 (T + K)] rfl rfl (news_blk e3.out) (by simp [Value.oneCell']) (by have := HTS.out; have := HOS.out; unfold maxLen; omega) (by have := HTS.out; have := HOS.out; omega) (by exact b3.out.size) ?_
          intro v2' w5 hown hgrow _ hat
          have T5 := hid (T3.out.app2 hown hgrow hat)
          have b5 := hid (owned_below T3.out.o2 b3.out hgrow)
          clear hown hgrow hat
          go_wp2_with fail
          refine ⟨KK.out _ b5.out, ?_⟩
          refine held_more (is := [18, 19]) (g := 0) (by kernel_rfl) rfl (KK.out _ b5.out) (by kernel_rfl) ?_
          iterate 2
            refine ⟨_, rfl, ?_⟩
            apply Exists.intro
            refine ⟨.inl ⟨by rfl, ?_⟩, ?_⟩
            · (intro W' hW'; obtain q1 := hW'; go_simp; try (with_reducible rfl))
            (dsimp only [Act.put]; try simp only [List.setIfInBounds_toArray, List.set_cons_zero, List.set_cons_succ])
          refine wpAnyH_done (by kernel_rfl) ?_ _
          simp only [Only]
          go_wp2_with fail
          go_roundw
          case rel => exact ⟨i + 1, mn, ts ++ [T], os ++ [T + K], by go_num, by omega, rfl, by omega, by rw [List.length_append, HTS.out]; rfl, by rw [List.length_append, HOS.out]; rfl, hD.out.snoc (by rw [HTS.out, HOS.out]) (by omega) ⟨hy3, hy4, hk3.out⟩, T5.out, b5.out⟩
          case measure => simp [intOf] <;> omega
      · go_wp2_with fail
        have d1 : Below wr.heap.size wr (wr.alloc (.cells #[.int .i64 (T + K)] 3)).drew := ((Below.refl _ _).alloc (Nat.le_refl _) _).drew
        have b1 := hid (hB.out.trans (d1.mono hB.out.size))
        clear d1
        refine ⟨KK.out _ b1.out, ?_⟩
        refine held_one (i := 6) (by kernel_rfl) (by rfl) (by rfl) ?_
        go_wp2_with fail
        have d2 : Below wr.heap.size wr ((wr.alloc (.cells #[.int .i64 (T + K)] 3)).alloc (.cells #[.int .i64 T] 3)).drew := (((Below.refl _ _).alloc (Nat.le_refl _) _).alloc (by simp) _).drew
        have T2 := hid (hT.out.below d2)
        have b2 := hid (hB.out.trans (d2.mono hB.out.size))
        have c2 := hid (show Blk ((wr.alloc (.cells #[.int .i64 (T + K)] 3)).alloc (.cells #[.int .i64 T] 3)).drew (wr.heap.size + 1) #[.int .i64 T] 3 from (Blk.made _ _ _ (by simp)).drew)
        have e2 := hid (show Blk ((wr.alloc (.cells #[.int .i64 (T + K)] 3)).alloc (.cells #[.int .i64 T] 3)).drew wr.heap.size #[.int .i64 (T + K)] 3 from ((Blk.new wr _ _).alloc _).drew)
        clear d2
        refine ⟨KK.out _ b2.out, ?_⟩
        refine held_one (i := 7) (by kernel_rfl) (by rfl) (by rfl) ?_
        refine wpList_append_own_at _ rfl _ _ 22 rfl w.heap.size 3 i0 (.int .i64 0) 1 8 Tryz.underlying22 hi hz0 hz1 hz2 rfl (by decide) u11 ts.length (zs ts) rfl T2.out.o1 ⟨wr.heap.size + 1, 0, none⟩ 1 1 [.int .i64 (T)] rfl rfl (news_blk c2.out) (by simp [Value.oneCell']) (by have := HTS.out; have := HOS.out; unfold maxLen; omega) (by have := HTS.out; have := HOS.out; omega) (by exact b2.out.size) ?_
        intro v1' w3 hown hgrow _ hat
        have T3 := hid (T2.out.app1 hown hgrow hat)
        have b3 := hid (owned_below T2.out.o1 b2.out hgrow)
        have e3 := hid (e2.out.grown hgrow (fun e => by have := lt1.out _ e; omega))
        clear hown hgrow hat
        go_wp2_with fail
        refine ⟨KK.out _ b3.out, ?_⟩
        refine held_one (i := 17) (by kernel_rfl) (by rfl) (by rfl) ?_
        refine wpList_append_own_at _ rfl _ _ 22 rfl w.heap.size 3 i0 (.int .i64 0) 1 8 Tryz.underlying22 hi hz0 hz1 hz2 rfl (by decide) u12 os.length (zs os) rfl T3.out.o2 ⟨wr.heap.size, 0, none⟩ 1 1 [.int .i64 (T + K)] rfl rfl (news_blk e3.out) (by simp [Value.oneCell']) (by have := HTS.out; have := HOS.out; unfold maxLen; omega) (by have := HTS.out; have := HOS.out; omega) (by exact b3.out.size) ?_
        intro v2' w5 hown hgrow _ hat
        have T5 := hid (T3.out.app2 hown hgrow hat)
        have b5 := hid (owned_below T3.out.o2 b3.out hgrow)
        clear hown hgrow hat
        go_wp2_with fail
        refine ⟨KK.out _ b5.out, ?_⟩
        refine held_more (is := [18, 19]) (g := 0) (by kernel_rfl) rfl (KK.out _ b5.out) (by kernel_rfl) ?_
        iterate 2
          refine ⟨_, rfl, ?_⟩
          apply Exists.intro
          refine ⟨.inl ⟨by rfl, ?_⟩, ?_⟩
          · (intro W' hW'; obtain q1 := hW'; go_simp; try (with_reducible rfl))
          (dsimp only [Act.put]; try simp only [List.setIfInBounds_toArray, List.set_cons_zero, List.set_cons_succ])
        refine wpAnyH_done (by kernel_rfl) ?_ _
        simp only [Only]
        go_wp2_with fail
        go_roundw
        case rel => exact ⟨i + 1, mn, ts ++ [T], os ++ [T + K], by go_num, by omega, rfl, by omega, by rw [List.length_append, HTS.out]; rfl, by rw [List.length_append, HOS.out]; rfl, hD.out.snoc (by rw [HTS.out, HOS.out]) (by omega) ⟨hy3, hy4, hk3.out⟩, T5.out, b5.out⟩
        case measure => simp [intOf] <;> omega
    · skip
      obtain rfl : i = N := by omega
      have q0 : decide ((i : Int) < (i : Int)) = false := by simp
      obtain ⟨e1, r1, rfl⟩ := owns_ex hT.out.o1
      obtain ⟨e2, r2, rfl⟩ := owns_ex hT.out.o2
      have R1 := hid (Row.of_owns hT.out.o1)
      have R2 := hid (Row.of_owns hT.out.o2)
      have HTS := hid hts; have HOS := hid hos
      have P1 := fun V hV hLV => hid (PE V (.slice e1 ts.length r1) ts hV hLV)
      have P2 := fun V hV hLV => hid (PE V (.slice e2 os.length r2) os hV hLV)
      have X1 : Hid (cwE ts s B ≠ 0 → (exR (cwR ts s B)).length = 0) := fun h => by rw [ex_bad h]; rfl
      have X2 : Hid (cwE os s B ≠ 0 → (exR (cwR os s B)).length = 0) := fun h => by rw [ex_bad h]; rfl
      have GD := hid fun (h1 : cwE ts s B = 0) (h2 : cwE os s B = 0) => (⟨ex_good h1, ex_good h2, cw_good h1, cwE_ok h1⟩ : _ ∧ _ ∧ _ ∧ _)
      rw [hts] at R1 P1 ⊢
      rw [hos] at R2 P2 ⊢
      obtain ⟨z1, hz1⟩ : ∃ z, cwE ts s B = z := ⟨_, rfl⟩
      obtain ⟨z2, hz2⟩ : ∃ z, cwE os s B = z := ⟨_, rfl⟩
      obtain ⟨L1, hL1⟩ : ∃ z, exR (cwR ts s B) = z := ⟨_, rfl⟩
      obtain ⟨L2, hL2⟩ : ∃ z, exR (cwR os s B) = z := ⟨_, rfl⟩
      rw [hz1, hL1] at P1 X1
      rw [hz2, hL2] at P2 X2
      rw [hz1, hz2, hL1, hL2] at GD
      by_cases hz : z1 = 0 ∧ z2 = 0
      · obtain ⟨rfl, rfl⟩ := hz
        obtain ⟨⟨-, n1, v1, g1, p1⟩, ⟨-, n2, v2, g2, p2⟩, ⟨ok, eB⟩, -, -, -, bp, -, -⟩ := GD.out rfl rfl
        obtain ⟨b, hb⟩ : ∃ b, B.toNat = b := ⟨_, rfl⟩
        rw [hb] at ok v1 v2
        rw [hts] at n1
        rw [hos] at n2
        obtain ⟨k1', k2', k3', k4', k5', k6'⟩ := bPE_parts bp
        obtain ⟨-, -, -, hq⟩ := bPE_size bp
        have f1 : Dir same mm ts os b s B := dir_all ok.ok hb (by rw [hts, hos]) hD.out
        obtain ⟨m, hm6, hmf, hmt, hcmp⟩ := f1
        have dn : nDigits (vQ s).num.natAbs ≤ 10 := by
          rw [← numB_size, ← k1']
          have := cW_size s
          have := HS.out
          omega
        have dd : nDigits (vQ s).den ≤ 10 := Nat.le_trans (nDigits_mono k4') dn
        have dnm := nd_pow6 dn (by omega : m ≤ 6 * mm + 6) hm6
        have ddm := nd_pow6 dd (by omega : m ≤ 6 * mm + 6) hm6
        have PW := fun V => hid (r2_Pow_nat V s m (by have := HS.out; omega) hq (by omega) (by omega))
        have eV : vQ s = mkRat ((vQ s).num.natAbs : Int) (vQ s).den := by
          have h := Rat.mkRat_self (vQ s)
          rw [show (((vQ s).num.natAbs : Nat) : Int) = (vQ s).num by omega]
          exact h.symm
        obtain ⟨n, hn⟩ : ∃ n, (vQ s).num.natAbs = n := ⟨_, rfl⟩
        obtain ⟨d, hd⟩ : ∃ d, (vQ s).den = d := ⟨_, rfl⟩
        have hd0 : d ≠ 0 := by rw [← hd]; exact (vQ s).den_nz
        rw [hn, hd] at eV hcmp v1 v2
        rw [hn] at dnm
        rw [hd] at ddm
        have fF : Dig 1000 (mkRat ((n ^ m : Nat) : Int) (d ^ m)) := dig_frac (Nat.ne_of_gt (Nat.pow_pos (by omega))) (by simp only [Int.natAbs_natCast]; omega) (by omega)
        have eP : vQ s ^ m = mkRat ((n ^ m : Nat) : Int) (d ^ m) := by rw [eV]; exact mk_pow n d m
        rw [eP, outB_fits (fF.fits (by omega) (by omega)), outE_fits (fF.fits (by omega) (by omega))] at PW
        have zF := hid (tx_size (fF.fits (by omega) (by omega)))
        obtain ⟨S1, hS1⟩ : ∃ S, (cwV ts s B).sum = S := ⟨_, rfl⟩
        obtain ⟨S2, hS2⟩ : ∃ S, (cwV os s B).sum = S := ⟨_, rfl⟩
        rw [hS1] at g1 p1 v1 hcmp
        rw [hS2] at g2 p2 v2 hcmp
        have RND : Hid (∀ j, j < i → ∃ X Y : ByteArray, valM L1 (numB j) = X ∧ valM L2 (numB j) = Y ∧ X.size ≤ 1000000 ∧ Y.size ≤ 1000000 ∧ cmB X (op2B (· * ·) (txQ (mkRat ((n ^ m : Nat) : Int) (d ^ m))) Y) ≤ 0 ∧ (op2B (· * ·) (txQ (mkRat ((n ^ m : Nat) : Int) (d ^ m))) Y).size ≤ 10000 ∧ cmB Y (op2B (· * ·) (txQ (mkRat ((n ^ m : Nat) : Int) (d ^ m))) X) ≤ 0 ∧ (op2B (· * ·) (txQ (mkRat ((n ^ m : Nat) : Int) (d ^ m))) X).size ≤ 10000) := fun j hj => by
          obtain ⟨x, hx⟩ : ∃ x, ts[j]? = some x := ⟨_, List.getElem?_eq_getElem (by omega)⟩
          obtain ⟨y, hy⟩ : ∃ x, os[j]? = some x := ⟨_, List.getElem?_eq_getElem (by omega)⟩
          have fx := ok.ok.fits x
          have fy := ok.ok.fits y
          rw [hn, hd] at fx fy
          obtain ⟨q1, q2⟩ := hcmp j x y hx hy
          have dq : d ^ m ≠ 0 := Nat.ne_of_gt (Nat.pow_pos (by omega))
          obtain ⟨u1, u2⟩ := pv_cmp (p := n ^ m) (q := d ^ m) dq p1 p2 (by omega) (by omega) (by omega : nDigits (cwN n d b x) ≤ 1000) (by omega : nDigits (cwN n d b y) ≤ 1000) (by omega) (by omega) q1
          obtain ⟨u3, u4⟩ := pv_cmp (p := n ^ m) (q := d ^ m) dq p2 p1 (by omega) (by omega) (by omega : nDigits (cwN n d b y) ≤ 1000) (by omega : nDigits (cwN n d b x) ≤ 1000) (by omega) (by omega) q2
          exact ⟨_, _, v1 j x hx, v2 j y hy, Nat.le_trans (shB_size10 _ _) (by omega), Nat.le_trans (shB_size10 _ _) (by omega), u1, u2, u3, u4⟩
        obtain ⟨F, hF⟩ : ∃ F, txQ (mkRat ((n ^ m : Nat) : Int) (d ^ m)) = F := ⟨_, rfl⟩
        rw [hF] at RND PW zF
        have HMF := hid hmf; have HMT := hid hmt; have N1 := hid n1; have N2 := hid n2
        clear hz1 hz2 hL1 hL2 hts hos hlt X1 X2 GD n1 v1 g1 p1 n2 v2 g2 p2 ok eB bp hb k1' k2' k3' k4' k5' k6' hq hcmp dn dd dnm ddm eV hn hd hd0 fF eP hS1 hS2 hF hmf hmt
        go_wp2_with fail
        refine (P1 _ R1.out (HL.out.call hB.out)).out.mono ?_; rintro e w2 ⟨⟨x1, rfl, hx1⟩, hb2⟩
        have M1 := hid hx1
        obtain ⟨a1, d1, rfl⟩ := hx1.openM
        have y2 := hid (bnext hB.out hb2); have S2 := hid (R2.out.call hb2)
        rw [N1.out] at M1 ⊢
        clear hb2 hx1
        go_wp2_with fail
        refine (P2 _ S2.out (HL.out.call y2.out)).out.mono ?_; rintro e w3 ⟨⟨x2, rfl, hx2⟩, hb3⟩
        have M2 := hid hx2; have M13 := hid (M1.out.call hb3)
        obtain ⟨a2, d2, rfl⟩ := hx2.openM
        have y3 := hid (bnext y2.out hb3)
        rw [N2.out] at M2 ⊢
        clear hb3 hx2
        go_upto_if 132 with fail
        go_cut [13] (fun s13 wx => s13 = .int .i64 (m : Nat) ∧ Hid (w3 = wx))
        case first =>
          cases same
          · have e := HMF.out rfl
            have wm : IntKind.i64.wrap (2 * (mm : Int)) = (m : Int) := by rw [IntWalk.i64_in _ ⟨by omega, by omega⟩]; omega
            go_wp2_with fail
            go_meet
            exact ⟨by congr 1; omega, rfl⟩
          · obtain rfl := HMT.out rfl
            go_wp2_with fail
            go_meet
            exact ⟨rfl, rfl⟩
        case rest =>
        obtain ⟨rfl, hW⟩ := hcut
        obtain rfl := hW.out
        clear hW
        go_wp2_with fail
        refine (PW _).out.mono ?_; rintro e w4 ⟨rfl, hb4⟩
        have y4 := hid (bnext y3.out hb4); have M14 := hid (M13.out.call hb4); have M24 := hid (M2.out.call hb4)
        clear hb4
        go_wp2_with fail
        go_loopw [22] (fun s22 wr => ∃ j : Nat, s22 = .int .i64 j ∧ j ≤ i ∧ Hid (Below w4.heap.size w4 wr)) (fun s22 wr => i - (intOf s22).toNat)
        case atStart => exact ⟨0, rfl, Nat.zero_le _, Below.refl _ _⟩
        case round =>
          obtain ⟨j, rfl, hj, hJ⟩ := hrel
          by_cases hjl : j < i
          · obtain ⟨X, Y, vx, vy, sx, sy, c1', c2', c3', c4'⟩ := RND.out j hjl
            have PI := fun V => hid (r2_Int V j (by omega))
            have Q1 := fun V (h : MRow V (.slice a1 i d1) L1) => hid (w_value V _ L1 (numB j) h)
            have Q2 := fun V (h : MRow V (.slice a2 i d2) L2) => hid (w_value V _ L2 (numB j) h)
            rw [vx] at Q1
            rw [vy] at Q2
            have T1 := fun V => hid (r2_Mul V F Y (by have := zF.out; omega) sy)
            have T2 := fun V => hid (r2_Mul V F X (by have := zF.out; omega) sx)
            obtain ⟨U, hU⟩ : ∃ U, op2B (· * ·) F Y = U := ⟨_, rfl⟩
            obtain ⟨D, hD'⟩ : ∃ U, op2B (· * ·) F X = U := ⟨_, rfl⟩
            rw [hU] at T1 c1' c2'
            rw [hD'] at T2 c3' c4'
            have C1 := fun V => hid (r2_Cmp V X U sx (by omega))
            have C2 := fun V => hid (r2_Cmp V Y D sy (by omega))
            obtain ⟨oe1, ho1⟩ : ∃ z, op2E (· * ·) F Y = z := ⟨_, rfl⟩
            obtain ⟨oe2, ho2⟩ : ∃ z, op2E (· * ·) F X = z := ⟨_, rfl⟩
            obtain ⟨ce1, hc1⟩ : ∃ z, cmE X U = z := ⟨_, rfl⟩
            obtain ⟨ce2, hc2⟩ : ∃ z, cmE Y D = z := ⟨_, rfl⟩
            obtain ⟨cb1, hc3⟩ : ∃ z, cmB X U = z := ⟨_, rfl⟩
            obtain ⟨cb2, hc4⟩ : ∃ z, cmB Y D = z := ⟨_, rfl⟩
            rw [ho1] at T1
            rw [ho2] at T2
            rw [hc1, hc3] at C1
            rw [hc2, hc4] at C2
            rw [hc3] at c1'
            rw [hc4] at c3'
            have t1 : decide (0 < cb1) = false := by simp; omega
            have t2 : decide (0 < cb2) = false := by simp; omega
            have wj : IntKind.i64.wrap ((j : Int) + 1) = ((j + 1 : Nat) : Int) := by rw [IntWalk.i64_in _ ⟨by omega, by omega⟩]; omega
            obtain ⟨KB, hKB⟩ : ∃ z, numB j = z := ⟨_, rfl⟩
            rw [hKB] at PI Q1 Q2
            clear vx vy hU hD' ho1 ho2 hc1 hc2 hc3 hc4 c1' c2' c3' c4' hKB
            go_wp2_with fail
            refine (PI _).out.mono ?_; rintro e w5 ⟨rfl, rfl⟩
            go_wp2_with fail
            refine (Q1 _ (M14.out.call hJ.out)).out.mono ?_; rintro e w5 ⟨rfl, rfl⟩
            go_wp2_with fail
            refine (Q2 _ (M24.out.call hJ.out)).out.mono ?_; rintro e w5 ⟨rfl, rfl⟩
            go_wp2_with fail
            refine (T1 _).out.mono ?_; rintro e w6 ⟨rfl, hb6⟩
            have y6 := hid (bnext hJ.out hb6); clear hb6
            go_wp2_with fail
            refine (T2 _).out.mono ?_; rintro e w7 ⟨rfl, hb7⟩
            have y7 := hid (bnext y6.out hb7); clear hb7
            go_wp2_with fail
            refine (C1 _).out.mono ?_; rintro e w8 ⟨rfl, hb8⟩
            have y8 := hid (bnext y7.out hb8); clear hb8
            go_wp2_with fail
            refine (C2 _).out.mono ?_; rintro e w9 ⟨rfl, hb9⟩
            have y9 := hid (bnext y8.out hb9); clear hb9
            go_wp2_with fail
            go_roundw
            case rel => exact ⟨j + 1, by go_num, by omega, y9⟩
            case measure => simp [intOf] <;> omega
          · obtain rfl : j = i := by omega
            clear hjl
            go_wp2_with fail
            go_ret
            exact ⟨rfl, bnext y4.out hJ.out⟩
      · have key : (z1 ≠ 0 ∧ L1.length = 0 ∧ (z2 = 0 ∨ z2 ≠ 0 ∧ L2.length = 0)) ∨ (z1 = 0 ∧ z2 ≠ 0 ∧ L2.length = 0) := by
          by_cases h1 : z1 = 0
          · exact .inr ⟨h1, fun h2 => hz ⟨h1, h2⟩, X2.out fun h2 => hz ⟨h1, h2⟩⟩
          · refine .inl ⟨h1, X1.out h1, ?_⟩
            by_cases h2 : z2 = 0
            · exact .inl h2
            · exact .inr ⟨h2, X2.out h2⟩
        obtain ⟨n1, hn1⟩ : ∃ n, L1.length = n := ⟨_, rfl⟩
        obtain ⟨n2, hn2⟩ : ∃ n, L2.length = n := ⟨_, rfl⟩
        rw [hn1, hn2] at key
        have HN1 := hid hn1; have HN2 := hid hn2
        clear hz1 hz2 hL1 hL2 hts hos hlt X1 X2 GD hz hn1 hn2
        rcases key with ⟨h1, rfl, rfl | ⟨h2, rfl⟩⟩ | ⟨rfl, h2, rfl⟩
        · have q1 : (z1 == 0) = false := by simpa using h1
          have q2 : (z1 != 0) = true := by simpa using h1
          clear h1
          go_wp2_with fail
          refine (P1 _ R1.out (HL.out.call hB.out)).out.mono ?_; rintro e w2 ⟨⟨x1, rfl, hx1⟩, hb2⟩
          obtain ⟨a1, d1, rfl⟩ := hx1.openM
          have y2 := hid (bnext hB.out hb2); have S2 := hid (R2.out.call hb2)
          rw [HN1.out]
          clear hb2 hx1
          go_wp2_with fail
          refine (P2 _ S2.out (HL.out.call y2.out)).out.mono ?_; rintro e w3 ⟨⟨x2, rfl, hx2⟩, hb3⟩
          obtain ⟨a2, d2, rfl⟩ := hx2.openM
          have y3 := hid (bnext y2.out hb3)
          clear hb3 hx2
          obtain ⟨n2, hn2⟩ : ∃ n, L2.length = n := ⟨_, rfl⟩
          rw [hn2]
          clear hn2
          go_wp2_with fail
          go_ret
          exact ⟨rfl, y3.out⟩
        · have q1 : (z1 == 0) = false := by simpa using h1
          have q2 : (z1 != 0) = true := by simpa using h1
          have q3 : (z2 == 0) = false := by simpa using h2
          have q4 : (z2 != 0) = true := by simpa using h2
          clear h1 h2
          go_wp2_with fail
          refine (P1 _ R1.out (HL.out.call hB.out)).out.mono ?_; rintro e w2 ⟨⟨x1, rfl, hx1⟩, hb2⟩
          obtain ⟨a1, d1, rfl⟩ := hx1.openM
          have y2 := hid (bnext hB.out hb2); have S2 := hid (R2.out.call hb2)
          rw [HN1.out]
          clear hb2 hx1
          go_wp2_with fail
          refine (P2 _ S2.out (HL.out.call y2.out)).out.mono ?_; rintro e w3 ⟨⟨x2, rfl, hx2⟩, hb3⟩
          obtain ⟨a2, d2, rfl⟩ := hx2.openM
          have y3 := hid (bnext y2.out hb3)
          rw [HN2.out]
          clear hb3 hx2
          go_wp2_with fail
          go_ret
          exact ⟨rfl, y3.out⟩
        · have q3 : (z2 == 0) = false := by simpa using h2
          have q4 : (z2 != 0) = true := by simpa using h2
          clear h2
          go_wp2_with fail
          refine (P1 _ R1.out (HL.out.call hB.out)).out.mono ?_; rintro e w2 ⟨⟨x1, rfl, hx1⟩, hb2⟩
          obtain ⟨a1, d1, rfl⟩ := hx1.openM
          have y2 := hid (bnext hB.out hb2); have S2 := hid (R2.out.call hb2)
          clear hb2 hx1
          obtain ⟨n1, hn1⟩ : ∃ n, L1.length = n := ⟨_, rfl⟩
          rw [hn1]
          clear hn1
          go_wp2_with fail
          refine (P2 _ S2.out (HL.out.call y2.out)).out.mono ?_; rintro e w3 ⟨⟨x2, rfl, hx2⟩, hb3⟩
          obtain ⟨a2, d2, rfl⟩ := hx2.openM
          have y3 := hid (bnext y2.out hb3)
          rw [HN2.out]
          clear hb3 hx2
          go_wp2_with fail
          go_ret
          exact ⟨rfl, y3.out⟩
end Go.Proofs.YtpehhgkghgbhiaaGreatDoor

/- The walk of law22.ChoosePrivate, whole. -/
namespace Go.Proofs.YtpehhgkghgbhiaaGreatDoor
open Go.RowKit Go.Shelf

theorem w_ChoosePrivate (w : World) (v u : Value) (us cs : List Int) (same : Bool) (s : ByteArray) (B : Int) (hv : Row w v (zs us)) (hu : Row w u (zs cs)) (hs : s.size ≤ 9223372036854775807) (hi1 : ∀ x ∈ us, -9223372036854775808 ≤ x ∧ x ≤ 9223372036854775807) (hi2 : ∀ x ∈ cs, -9223372036854775808 ≤ x ∧ x ≤ 9223372036854775807) (hL : Lay w) :
    Calls Tryz.prog 3 #[v, u, .bool same, .string s, .int .i64 B] w fun e w' => e = .returned (.bool true) ∧ Below w.heap.size w w' := by
  by_cases h : 12 < us.length ∨ cs.length < us.length ∨ 10 < s.size ∨ 20 < B
  · exact cp_over w v u us cs same s B hv hu hs hL h
  · exact cp_main w v u us cs same s B hv hu hi1 hi2 hL (by omega) (by omega) (by omega) (by omega)
end Go.Proofs.YtpehhgkghgbhiaaGreatDoor

/- What the cards need besides: arguments that are slices of ints, opened. -/
namespace Go.Proofs.YtpehhgkghgbhiaaGreatDoor
open Go.ChangeShapes Go.WideShapes Go.ChangeAt Go.RowKit
open Go.ChangeMaps (open_string shut_string)
set_option linter.unusedVariables false

theorem open_nums {H : Type} {enc : TypeId × Value → H} {P : Program} {r : Reach} {b0 : Nat} {w : World} {t e : TypeId} {v : Value} {d : DataW H} {p : List MemPlace} (ht : P.underlying t = some (.slice e)) (he : P.underlying e = some (.int .i64)) (hc : P.cellsOf e = 1)
    (hv : Value.okWide P w r b0 t v) (h : DataW.Trod enc P w 0 (fun _ => true) true t v d p) : ∃ l, Row w v (zs l) ∧ ∀ x ∈ l, -9223372036854775808 ≤ x ∧ x ≤ 9223372036854775807 := by
  obtain ⟨a0, len, cap, rfl⟩ := okWide_slice ht hv
  obtain ⟨fuel, hf⟩ := h
  rcases open_ints ht he hc hf with ⟨hcs, -⟩ | ⟨a, len', cap', ss, hcs, -, hl, hm, hz, -, hcell, hws⟩
  · simp [Value.cells] at hcs
    obtain ⟨rfl, rfl, rfl⟩ := hcs
    exact ⟨[], Row.nil w, by simp⟩
  · simp [Value.cells] at hcs
    obtain ⟨rfl, rfl, rfl⟩ := hcs
    simp at hz
    refine ⟨ss.take len, ⟨some a, cap, ?_, ?_, hm, fun i x hx => ?_⟩, fun x hx => (Lit.wf_int_iff .i64 x).1 (hws x (List.mem_of_mem_take hx))⟩
    · rw [zs_length, List.length_take_of_le (by omega)]
    · rw [zs_length, List.length_take_of_le (by omega)]; exact hl
    · have hi := (List.getElem?_eq_some_iff.1 hx).1
      rw [zs_length, List.length_take_of_le (by omega)] at hi
      obtain ⟨b, off, spot⟩ := a
      have hspot : spot = none := by
        have h0 := hcell 0 (by omega)
        simpa [Addr.add] using World.cell?_spot h0
      subst hspot
      have hc2 := hcell i (by omega)
      rw [Go.WideShapes.add_plain] at hc2
      refine ⟨b, off, rfl, World.block_lt_of_cell? w _ hc2, ?_⟩
      rw [hc2, ← hx]
      simp only [zs, List.getElem?_map, List.getElem?_take]
      rw [if_pos (by omega), List.getD_eq_getElem?_getD]
      obtain ⟨y, hy⟩ : ∃ y, ss[i]? = some y := ⟨_, List.getElem?_eq_getElem (by omega)⟩
      rw [hy]
      rfl
end Go.Proofs.YtpehhgkghgbhiaaGreatDoor

/- ChoosePrivate: the row and the tied card: for every input the law answers true; conditions: none beyond the row's own. -/
namespace Go.Proofs.YtpehhgkghgbhiaaGreatDoor
open Go.ChangeShapes Go.WideShapes Go.ChangeAt Go.RowKit
open Go.ChangeMaps (open_string shut_string)
set_option linter.unusedVariables false

set_option maxRecDepth 100000 in
set_option maxHeartbeats 1000000 in
theorem choosePrivate_lifted (os : Os) (started : os.Started) (H : Type) (enc : TypeId × Value → H) (F : Stop.Interp) :
    ReturnsInHanded {} Tryz.checked os 3 .any ((OpenSpec.ofChange Rows.choosePrivateSpec).preRow enc Tryz.prog Tryz.f3 Rows.choosePrivateRow.domain false Rows.choosePrivateRow.laid)
      (((OpenSpec.ofChange Rows.choosePrivateSpec).at F).post enc Tryz.prog Tryz.f3 false true false false) := by
  refine returnsInHanded_of_row (C := Tryz.checked) (s := OpenSpec.ofChange Rows.choosePrivateSpec) own started (by kernel_rfl) Tryz.func3
    (ChangeSpec.witness_shaped (enc := enc) (C := Tryz.checked) (os := os) (s := Rows.choosePrivateSpec) (conds := Rows.choosePrivateRow.domain) (fn := Tryz.f3) (X := fun w _ => laidMetH Tryz.prog Rows.choosePrivateRow.laid w) false (World.laidAll Tryz.prog os Rows.choosePrivateRow.laid) #[.slice none 0 0, .slice none 0 0, .bool false, .string ByteArray.empty, .int .i64 0] 8 (World.laidAll_os _ _ _)
      (World.shaped_of_ZipB (by kernel_rfl) (by kernel_rfl)) (by kernel_rfl) (by kernel_rfl) (by kernel_rfl)
      (by rw [MakeChecks.laidMetH_plain _ _ _ (by kernel_rfl)]; exact laidMet_laidAll _ (by kernel_rfl) (by kernel_rfl))) ?_
  intro W base args ds gs before hval0 hW _ _ _ hL hsh _
  have hval : ∀ (j : Nat) t v, Tryz.f3.params[j]? = some t → args[j]? = some v → Value.okWide Tryz.prog W .any base t v := hval0
  have hW' := hW
  obtain ⟨p, q, hA0, hV, rfl, hfz, hnd⟩ := hW
  have hA : DataW.TrodAll enc Tryz.prog W 0 (fun _ => true) true Tryz.f3.params.toList args.toList ds p := hA0
  rw [Tryz.params3] at hA hval
  obtain ⟨v0, vs0, d0, ds0, p0, q0, hargs, rfl, rfl, h0, r0⟩ := trodAll_cons hA
  obtain ⟨v1, vs1, d1, ds1, p1, q1, rfl, rfl, rfl, h1, r1⟩ := trodAll_cons r0
  obtain ⟨v2, vs2, d2, ds2, p2, q2, rfl, rfl, rfl, h2, r2⟩ := trodAll_cons r1
  obtain ⟨v3, vs3, d3, ds3, p3, q3, rfl, rfl, rfl, h3, r3⟩ := trodAll_cons r2
  obtain ⟨v4, vs4, d4, ds4, p4, q4, rfl, rfl, rfl, h4, r4⟩ := trodAll_cons r3
  obtain ⟨rfl, rfl, rfl⟩ := trodAll_nil r4
  obtain rfl : args = #[v0, v1, v2, v3, v4] := by cases args; simp_all
  obtain ⟨rfl, rfl⟩ := trodVars_none hV
  have k0 := h0
  have lt0 : ∀ x ∈ p0, x.block < W.heap.size := by obtain ⟨m, hm⟩ := k0; exact DataW.trod_lt m _ _ _ hm
  have k1 := h1
  have lt1 : ∀ x ∈ p1, x.block < W.heap.size := by obtain ⟨m, hm⟩ := k1; exact DataW.trod_lt m _ _ _ hm
  have k2 := h2
  have lt2 : ∀ x ∈ p2, x.block < W.heap.size := by obtain ⟨m, hm⟩ := k2; exact DataW.trod_lt m _ _ _ hm
  have k3 := h3
  have lt3 : ∀ x ∈ p3, x.block < W.heap.size := by obtain ⟨m, hm⟩ := k3; exact DataW.trod_lt m _ _ _ hm
  have k4 := h4
  have lt4 : ∀ x ∈ p4, x.block < W.heap.size := by obtain ⟨m, hm⟩ := k4; exact DataW.trod_lt m _ _ _ hm
  obtain ⟨l0, R0, Z0⟩ := open_nums Tryz.underlying22 Tryz.underlying3 (by kernel_rfl) (hval 0 22 v0 rfl rfl) h0
  obtain ⟨l1, R1, Z1⟩ := open_nums Tryz.underlying22 Tryz.underlying3 (by kernel_rfl) (hval 1 22 v1 rfl rfl) h1
  obtain ⟨a2, rfl, rfl, rfl⟩ := open_bool Tryz.underlying4 (hval 2 4 v2 rfl rfl) h2
  obtain ⟨a3, rfl, rfl, rfl, w3⟩ := open_string Tryz.underlying23 (hval 3 23 v3 rfl rfl) h3
  have z3 : a3.size ≤ 9223372036854775807 := by unfold maxLen at w3; omega
  obtain ⟨a4, rfl, rfl, rfl, w4⟩ := open_int Tryz.underlying3 (hval 4 3 v4 rfl rfl) h4
  have b4 := bounds_i64 w4
  clear hA0 hval0
  refine (w_ChoosePrivate W v0 v1 l0 l1 a2 a3 a4 R0 R1 z3 Z0 Z1 (lay_of hL hsh)).mono fun e W' ⟨he, bel⟩ => ?_
  subst he
  exact ⟨_, rfl, _, _, _, [], _, [], hW', trodAll_mk1 (shut_bool Tryz.underlying4 _), (trodAll_cons_mk (Below.trod laidOut (by kernel_rfl) (of_decide_eq_true (by kernel_rfl)) k0 bel lt0) (trodAll_cons_mk (Below.trod laidOut (by kernel_rfl) (of_decide_eq_true (by kernel_rfl)) k1 bel lt1) (trodAll_cons_mk (Below.trod laidOut (by kernel_rfl) (of_decide_eq_true (by kernel_rfl)) k2 bel lt2) (trodAll_cons_mk (Below.trod laidOut (by kernel_rfl) (of_decide_eq_true (by kernel_rfl)) k3 bel lt3) (trodAll_cons_mk (Below.trod laidOut (by kernel_rfl) (of_decide_eq_true (by kernel_rfl)) k4 bel lt4) trodAll_mk0))))), rfl, bel.frame _, fun h => by cases h⟩

theorem choosePrivate_holds : Rows.choosePrivateRow.holds Tryz.pinned (OpenSpec.ofChange Rows.choosePrivateSpec) :=
  OpenClaim.holds_of_cond 3 Tryz.f3 rfl rfl rfl rfl rfl rfl rfl ⟨rfl, rfl, rfl, rfl, rfl⟩ rfl rfl rfl rfl rfl (by kernel_rfl) Tryz.func3 (by kernel_rfl)
    (of_decide_eq_true (by kernel_rfl)) (by unfold Func.isWrapper; first | (rw [if_pos (by decide +kernel)]; kernel_rfl) | (rw [if_neg (by decide +kernel)]; exact ⟨rfl, rfl⟩))
    (fun os started H enc _ F0 => by rw [OpenClaim.pre_eq_preRow]; exact choosePrivate_lifted os started H enc F0)

theorem choosePrivate_card : Rows.ChoosePrivateCardSaid :=
  Claim7.holds_tied_plain_at .later [] [.data, .data, .data, .data, .sentinel, .sentinel, .pinned] true Rows.choosePrivateCard.stood.harness true
    choosePrivate_holds (fun _ h => by cases h) (by kernel_rfl) (fun _ h => by cases h) choosePrivate_row_tie rfl ⟨rfl, rfl⟩ (by kernel_rfl) rfl
    (fun f fn hf hfn => by
      obtain rfl : f = 3 := Option.some.inj ((show Tryz.prog.funcNamed "privhouse/privhouselaw22.ChoosePrivate" = some 3 by kernel_rfl).symm.trans hf) |>.symm
      obtain rfl : fn = Tryz.f3 := (Option.some.inj (Tryz.func3.symm.trans hfn)).symm
      exact ⟨by kernel_rfl, fun j t ht => by
        rw [Tryz.params3] at ht
        have hm : t ∈ [22, 22, 4, 23, 3] := by simpa using Array.mem_of_getElem? ht
        have hall : ([22, 22, 4, 23, 3].all fun u => !Tryz.prog.wantsStandIn u) = true := by kernel_rfl
        exact (show Tryz.prog.wantsStandIn t = false by simpa using List.all_eq_true.1 hall t hm)⟩)
    (by kernel_rfl)
#print axioms choosePrivate_card
end Go.Proofs.YtpehhgkghgbhiaaGreatDoor
