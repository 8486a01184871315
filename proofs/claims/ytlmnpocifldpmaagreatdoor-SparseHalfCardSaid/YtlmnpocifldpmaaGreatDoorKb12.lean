/- Texts that the proof rests on, merged: R2t, Shf, Sl0. -/
import Derived.Test.YtlmnpocifldpmaaGreatDoorKb11
import Derived.Deep.DeepCutAuto
set_option linter.unusedVariables false
set_option linter.unusedSimpArgs false
set_option linter.unusedSectionVars false
set_option maxRecDepth 100000
set_option maxHeartbeats 8000000
namespace Go.Proofs.YtlmnpocifldpmaaGreatDoor
open Go.RowKit
open Go.Lib (decDigits nDigits)
theorem r2_Order (w : World) (v u : Value) (p q : Rat) (hp : IsQ .i64 w v p) (hq : IsQ .i64 w u q) (dp : Dig 4000 p) (dq : Dig 4000 q) :
 Calls Tryz.prog 61 #[v, u] w fun e w' => e = .returned (.int .i64 (ordQ p q)) ∧ Below w.heap.size w w' := by
 have HO := fun V v u hp hq => hid (op_plus V v u p (-q) hp hq dp (dig_neg dq))
 have HG := fun V v h => hid (r2_Negative V v q h)
 have HP := hid hp; have HQ := hid hq
 obtain ⟨m, a, n, c, a', n', c', rfl⟩ := hp.qv
 obtain ⟨m2, b, j, d, b', j', d', rfl⟩ := hq.qv
 rw [show ordQ p q = sgnQ (p + -q) by rw [ordQ, Rat.sub_eq_add_neg]]
 obtain ⟨z, hz⟩ : ∃ z, p + -q = z := ⟨_, rfl⟩
 simp only [hz] at HO
 rw [hz]
 clear hp hq dp dq hz
 go_enter Tryz.func61, Tryz.ntmps61
 go_upto_region 1 with fail
 obtain ⟨W, hW⟩ : ∃ W, (w.alloc (.cells #[.bool m, .slice a n c, .slice a' n' c'] 100)).alloc (.cells #[.bool m2, .slice b j d, .slice b' j' d'] 100) = W := ⟨_, rfl⟩
 have Y0 : Blk W w.heap.size #[.bool m, .slice a n c, .slice a' n' c'] 100 := by rw [← hW]; exact (Blk.new w _ _).alloc _
 have Y1 : Blk W (w.heap.size + 1) #[.bool m2, .slice b j d, .slice b' j' d'] 100 := by rw [← hW]; exact Blk.made _ _ _ (by simp)
 have y0 : Below w.heap.size w W := by rw [← hW]; exact ((Below.refl _ _).alloc (Nat.le_refl _) _).alloc (by simp) _
 rw [hW]
 have KK : Hid (∀ w', Below W.heap.size W w' → w'.cell? ⟨w.heap.size, 0, none⟩ = some (.bool m) ∧ w'.cell? ⟨w.heap.size, 1, none⟩ = some (.slice a n c) ∧ w'.cell? ⟨w.heap.size, 2, none⟩ = some (.slice a' n' c') ∧ w'.cell? ⟨w.heap.size + 1, 0, none⟩ = some (.bool m2) ∧ w'.cell? ⟨w.heap.size + 1, 1, none⟩ = some (.slice b j d) ∧ w'.cell? ⟨w.heap.size + 1, 2, none⟩ = some (.slice b' j' d')) := fun w' hb =>
  ⟨(Y0.call hb).cell 0, (Y0.call hb).cell 1, (Y0.call hb).cell 2, (Y1.call hb).cell 0, (Y1.call hb).cell 1, (Y1.call hb).cell 2⟩
 have Q1 := hid (HP.out.call y0); have Q2 := hid (HQ.out.call y0)
 have HY := hid y0
 clear Y0 Y1 y0 hW
 go_cut [5] (fun s5 wx => ∃ (g : Nat) (a5 : Option Addr) (n5 c5 : Nat) (a6 : Option Addr) (n6 c6 : Nat), s5 = .pointer (some ⟨g, 0, none⟩) ∧ Hid (Blk wx g #[.bool (decide (z.num < 0)), .slice a5 n5 c5, .slice a6 n6 c6] 100) ∧ Hid (n5 = (limbs z.num.natAbs).length) ∧ Hid (Below W.heap.size W wx))
 case first =>
  refine held_plain [0, 1] 4 (fun w' => w'.cell? ⟨w.heap.size, 0, none⟩ = some (.bool m) ∧ w'.cell? ⟨w.heap.size, 1, none⟩ = some (.slice a n c) ∧ w'.cell? ⟨w.heap.size, 2, none⟩ = some (.slice a' n' c') ∧ w'.cell? ⟨w.heap.size + 1, 0, none⟩ = some (.bool m2) ∧ w'.cell? ⟨w.heap.size + 1, 1, none⟩ = some (.slice b j d) ∧ w'.cell? ⟨w.heap.size + 1, 2, none⟩ = some (.slice b' j' d')) (by kernel_rfl) (by kernel_rfl) (by kernel_rfl) (by kernel_rfl) (KK.out _ (Below.refl _ _).drew) ?_
  iterate 2
   refine ⟨_, rfl, ?_⟩
   apply Exists.intro
   refine ⟨.inl ⟨by rfl, ?_⟩, ?_⟩
   ·(intro W' hW'; obtain ⟨q1, q2, q3, q4, q5, q6⟩ := hW'; go_simp; try (with_reducible rfl))
   (dsimp only [Act.put]; try simp only [List.setIfInBounds_toArray, List.set_cons_zero, List.set_cons_succ])
  refine held_two (i := 2) (j := 4) (by kernel_rfl) (by rfl) (by rfl) (by rfl) (by rfl) ?_ ?_
  ·go_wp2_with fail
   refine (HG _ _ (Q2.out.call (Below.refl _ _).drew)).out.mono ?_; rintro e w3 ⟨⟨v3, rfl, hv3⟩, hb3⟩
   have x3 := hid (show Below W.heap.size W w3 from (Below.refl _ _).drew.trans hb3)
   have N3 := hid hv3
   obtain ⟨m5, a5, n5, c5, a6, n6, c6, rfl⟩ := hv3.qv
   clear hb3 hv3
   go_wp2_with fail
   refine ⟨KK.out _ x3.out, ?_⟩
   refine held_two (i := 3) (j := 4) (by kernel_rfl) (by rfl) (by rfl) (by rfl) (by rfl) ?_ ?_
   ·go_wp2_with fail
    refine (HO _ _ _ (Q1.out.call x3.out) N3.out).out.mono ?_; rintro e w4 ⟨⟨v4, rfl, hv4⟩, hb4⟩
    have x4 := hid (bnext x3.out hb4)
    obtain ⟨N, D, rfl, h1, h2⟩ := hv4.ex
    obtain ⟨a7, c7, rfl, -⟩ := h1.openI
    obtain ⟨a8, c8, rfl, -⟩ := h2.openI
    clear hb4 hv4 h1 h2
    go_wp2_with fail
    refine ⟨KK.out _ x4.out, ?_⟩
    refine held_one (i := 4) (by kernel_rfl) (by rfl) (by rfl) ?_
    go_wp2_with fail
    refine ⟨KK.out _ (x4.out.alloc x4.out.size _), ?_⟩
    refine held_one (i := 5) (by kernel_rfl) (by rfl) (by rfl) ?_
    go_wp2_with fail
    refine ⟨KK.out _ (x4.out.alloc x4.out.size _), ?_⟩
    refine wpAnyH_done (by kernel_rfl) ?_ _
    simp only [Only]
    go_wp2_with fail
    go_meet
    exact ⟨_, _, _, _, _, _, _, rfl, Blk.new w4 _ _, rfl, x4.out.alloc x4.out.size _⟩
   ·go_wp2_with fail
    have A3 := hid (x3.out.alloc x3.out.size (.cells #[.bool false, .slice none 0 0, .slice none 0 0] 100))
    have b3 := hid (Blk.new w3 #[.bool false, .slice none 0 0, .slice none 0 0] 100)
    have n3 := hid (N3.out.call ((Below.refl _ _).alloc (Nat.le_refl _) (.cells #[.bool false, .slice none 0 0, .slice none 0 0] 100)))
    refine ⟨KK.out _ A3.out, ?_⟩
    refine held_one (i := 3) (by kernel_rfl) (by rfl) (by rfl) ?_
    go_wp2_with fail
    refine (HO _ _ _ (Q1.out.call A3.out) n3.out).out.mono ?_; rintro e w4 ⟨⟨v4, rfl, hv4⟩, hb4⟩
    have x4 := hid (bnext A3.out hb4)
    have b4 := hid (b3.out.call hb4)
    obtain ⟨N, D, rfl, h1, h2⟩ := hv4.ex
    obtain ⟨a7, c7, rfl, -⟩ := h1.openI
    obtain ⟨a8, c8, rfl, -⟩ := h2.openI
    have t0 := b4.out.cell 0
    have t1 := b4.out.cell 1
    have t2 := b4.out.cell 2
    have t3 := b4.out.free 0
    have t4 := b4.out.free 1
    have t5 := b4.out.free 2
    simp at t0 t1 t2
    have ge := hid (show W.heap.size ≤ w3.heap.size from x3.out.size)
    obtain ⟨k7, hk7⟩ : ∃ k, (limbs z.num.natAbs).length = k := ⟨_, rfl⟩
    obtain ⟨k8, hk8⟩ : ∃ k, (limbs z.den).length = k := ⟨_, rfl⟩
    obtain ⟨mz, hmz⟩ : ∃ m, decide (z.num < 0) = m := ⟨_, rfl⟩
    rw [hk7, hk8, hmz]
    have HK7 := hid hk7; have HMZ := hid hmz
    clear hb4 hv4 h1 h2 hk7 hk8 hmz
    go_wp2_with fail
    refine ⟨KK.out _ x4.out, ?_⟩
    refine held_one (i := 5) (by kernel_rfl) (by rfl) (by rfl) ?_
    go_wp2_with fail
    obtain ⟨s1, s2⟩ := set3 b4.out mz a7 a8 k7 c7 k8 c8
    have x5 := hid (below_set (below_set (below_set x4.out (i := 0) ge.out (.bool mz)) (i := 1) ge.out (.slice a7 k7 c7)) (i := 2) ge.out (.slice a8 k8 c8))
    have S2 := hid s2
    clear s1 s2 t0 t1 t2 t3 t4 t5
    refine ⟨KK.out _ x5.out, ?_⟩
    refine wpAnyH_done (by kernel_rfl) ?_ _
    simp only [Only]
    go_wp2_with fail
    go_meet
    exact ⟨_, _, _, _, _, _, _, rfl, by rw [HMZ.out]; exact S2, HK7.out.symm, x5⟩
  ·go_wp2_with fail
   have A0 := hid (show Below W.heap.size W (W.alloc (.cells #[.bool false, .slice none 0 0, .slice none 0 0] 100)).drew from ((Below.refl _ _).alloc (Nat.le_refl _) _).drew)
   have b0 := hid (show Blk (W.alloc (.cells #[.bool false, .slice none 0 0, .slice none 0 0] 100)).drew W.heap.size #[.bool false, .slice none 0 0, .slice none 0 0] 100 from Blk.new W _ _)
   refine ⟨KK.out _ A0.out, ?_⟩
   refine held_one (i := 2) (by kernel_rfl) (by rfl) (by rfl) ?_
   go_wp2_with fail
   refine (HG _ _ (Q2.out.call A0.out)).out.mono ?_; rintro e w3 ⟨⟨v3, rfl, hv3⟩, hb3⟩
   have x3 := hid (A0.out.trans (hb3.mono A0.out.size))
   have b3 := hid (b0.out.call hb3)
   have N3 := hid hv3
   obtain ⟨m5, a5, n5, c5, a6, n6, c6, rfl⟩ := hv3.qv
   clear hb3 hv3
   go_wp2_with fail
   refine ⟨KK.out _ x3.out, ?_⟩
   refine held_one (i := 3) (by kernel_rfl) (by rfl) (by rfl) ?_
   go_wp2_with fail
   refine (HO _ _ _ (Q1.out.call x3.out) N3.out).out.mono ?_; rintro e w4 ⟨⟨v4, rfl, hv4⟩, hb4⟩
   have x4 := hid (bnext x3.out hb4)
   have b4 := hid (b3.out.call hb4)
   obtain ⟨N, D, rfl, h1, h2⟩ := hv4.ex
   obtain ⟨a7, c7, rfl, -⟩ := h1.openI
   obtain ⟨a8, c8, rfl, -⟩ := h2.openI
   have t0 := b4.out.cell 0
   have t1 := b4.out.cell 1
   have t2 := b4.out.cell 2
   have t3 := b4.out.free 0
   have t4 := b4.out.free 1
   have t5 := b4.out.free 2
   simp at t0 t1 t2
   have ge := hid (Nat.le_refl W.heap.size)
   obtain ⟨k7, hk7⟩ : ∃ k, (limbs z.num.natAbs).length = k := ⟨_, rfl⟩
   obtain ⟨k8, hk8⟩ : ∃ k, (limbs z.den).length = k := ⟨_, rfl⟩
   obtain ⟨mz, hmz⟩ : ∃ m, decide (z.num < 0) = m := ⟨_, rfl⟩
   rw [hk7, hk8, hmz]
   have HK7 := hid hk7; have HMZ := hid hmz
   clear hb4 hv4 h1 h2 hk7 hk8 hmz
   go_wp2_with fail
   refine ⟨KK.out _ x4.out, ?_⟩
   refine held_one (i := 5) (by kernel_rfl) (by rfl) (by rfl) ?_
   go_wp2_with fail
   obtain ⟨s1, s2⟩ := set3 b4.out mz a7 a8 k7 c7 k8 c8
   have x5 := hid (below_set (below_set (below_set x4.out (i := 0) ge.out (.bool mz)) (i := 1) ge.out (.slice a7 k7 c7)) (i := 2) ge.out (.slice a8 k8 c8))
   have S2 := hid s2
   clear s1 s2 t0 t1 t2 t3 t4 t5
   refine ⟨KK.out _ x5.out, ?_⟩
   refine wpAnyH_done (by kernel_rfl) ?_ _
   simp only [Only]
   go_wp2_with fail
   go_meet
   exact ⟨_, _, _, _, _, _, _, rfl, by rw [HMZ.out]; exact S2, HK7.out.symm, x5⟩
 case rest =>
  obtain ⟨g, a5, n5, c5, a6, n6, c6, rfl, hB, hn, hW⟩ := hcut
  have r0 := hB.out.cell 0
  have r1 := hB.out.cell 1
  simp at r0 r1
  have yz := hid (bnext HY.out hW.out)
  by_cases h1 : z.num = 0
  ·have es : Hid (sgnQ z = 0) := by show sgnQ z = 0; rw [sgnQ, if_pos h1]
   obtain rfl : n5 = 0 := by rw [hn.out, h1]; exact limbs_none.2 rfl
   clear h1
   go_wp2_with fail
   go_ret
   exact ⟨by rw [es.out]; rfl, yz.out⟩
  ·have h2 : n5 ≠ 0 := fun e => h1 (by rw [hn.out] at e; have := limbs_none.1 e; omega)
   have q1 : ((n5 : Int) == 0) = false := by simp; omega
   obtain ⟨mm, hmm⟩ : ∃ m, decide (z.num < 0) = m := ⟨_, rfl⟩
   have es : sgnQ z = if mm = true then -1 else 1 := by
    rw [sgnQ, if_neg h1, ← hmm]; simp
   have ES := hid es
   rw [hmm] at r0
   clear h1 h2 es hmm
   cases mm
   all_goals
    go_wp2_with fail
    go_ret
    exact ⟨by rw [ES.out]; rfl, yz.out⟩
theorem r2_Cmp (w : World) (s t : ByteArray) (hs : s.size ≤ 1000000) (ht : t.size ≤ 1000000) :
 Calls Tryz.prog 17 #[.string s, .string t] w fun e w' => e = .returned (.tuple #[.int .i64 (cmB s t), .int .i64 (cmE s t)]) ∧ Below w.heap.size w w' := by
 have R1 := fun V => hid (r2_two V s t hs ht)
 clear hs ht
 by_cases h0 : qE s = 0 ∧ qE t = 0
 ·have eB : cmB s t = ordQ (vQ s) (vQ t) := by rw [cmB, if_pos h0]
  have eE : cmE s t = 0 := by rw [cmE, if_pos h0.1, h0.2]
  rw [eB, eE]
  have ds := dig_of_fits (vQ_fits h0.1)
  have dt := dig_of_fits (vQ_fits h0.2)
  have HO := fun V v u hp hq => hid (r2_Order V v u (vQ s) (vQ t) hp hq ds dt)
  obtain ⟨o, ho⟩ : ∃ x, ordQ (vQ s) (vQ t) = x := ⟨_, rfl⟩
  rw [ho] at HO ⊢
  have H0 := hid h0
  clear eB eE ds dt ho h0
  go_enter Tryz.func17, Tryz.ntmps17
  go_wp2_with fail
  refine (R1 _).out.mono ?_; rintro e w1 ⟨⟨m, a, n, c, a', n', c', m2, b, j, d, b', j', d', rfl, hq⟩, hb1⟩
  obtain ⟨q1, q2⟩ := hq H0.out.1 H0.out.2
  rw [if_pos H0.out.1, H0.out.2]
  have b0 := ((Below.refl w1.heap.size w1).alloc (Nat.le_refl _) (.cells #[.bool m, .slice a n c, .slice a' n' c'] 100)).alloc (by simp) (.cells #[.bool m2, .slice b j d, .slice b' j' d'] 100)
  have y2 := hid (bnext hb1 b0)
  have H1 := HO _ _ _ (q1.call b0) (q2.call b0)
  clear hb1 q1 q2 hq b0 HO R1
  go_wp2_with fail
  refine H1.out.mono ?_; rintro e w2 ⟨rfl, hb2⟩
  have y3 := hid (bnext y2.out hb2)
  clear hb2 H1
  go_wp2_with fail
  go_ret2
  exact ⟨rfl, y3.out⟩
 ·obtain ⟨n0, -, -⟩ := op2_err (f := (· - ·)) h0
  rw [cmB, if_neg h0, cmE]
  obtain ⟨x, hx⟩ : ∃ x, (if qE s = 0 then qE t else qE s) = x := ⟨_, rfl⟩
  rw [hx] at n0 ⊢
  have q0 : (x != 0) = true := by simpa using n0
  have HX := hid hx
  clear h0 n0 hx
  go_enter Tryz.func17, Tryz.ntmps17
  go_wp2_with fail
  refine (R1 _).out.mono ?_; rintro e w1 ⟨⟨m, a, n, c, a', n', c', m2, b, j, d, b', j', d', rfl, -⟩, hb1⟩
  rw [HX.out]
  have y2 := hid ((hb1.alloc hb1.size (.cells #[.bool m, .slice a n c, .slice a' n' c'] 100)).alloc (Nat.le_trans hb1.size (by simp)) (.cells #[.bool m2, .slice b j d, .slice b' j' d'] 100))
  clear hb1
  go_wp2_with fail
  go_ret2
  exact ⟨rfl, y2.out⟩
open Go.Shelf
theorem isQ_putU {w : World} {b : Nat} {m0 : Bool} {a0 b0 : Option Addr} {n0 c0 n1 c1 : Nat} {t : TypeId} (hb : Blk w b #[.bool m0, .slice a0 n0 c0, .slice b0 n1 c1] t) (m : Bool) (a a' : Option Addr) (n c n' c' : Nat) {v : Value} {q : Rat} (h : IsQ .u64 w v q) :
 IsQ .u64 (((w.setCell ⟨b, 0, none⟩ (.bool m)).setCell ⟨b, 1, none⟩ (.slice a n c)).setCell ⟨b, 2, none⟩ (.slice a' n' c')) v q := by
 obtain ⟨N, D, rfl, h1, h2⟩ := h.ex
 have hs := (set3 hb m a a' n c n' c').1
 exact ⟨N, D, rfl, hs _ _ _ h1, hs _ _ _ h2⟩
theorem f_Must (w : World) (s : ByteArray) (hs : s.size ≤ 1000000) (hq : qE s = 0) (hL : Lay w) :
 Calls Tryz.prog 53 #[.string s] w fun e w' => RetQ .u64 (vQ s) e w' ∧ Below w.heap.size w w' := by
 have HP := fun V hV => hid (f_Parse V s hs hV)
 rw [hq] at HP
 have HQ := hid hq; have HL := hid hL
 have A0 := hid ((Below.refl w.heap.size w).alloc (Nat.le_refl _) (.cells #[.bool false, .slice none 0 0, .slice none 0 0] 94))
 have X0 := hid (Blk.new w #[.bool false, .slice none 0 0, .slice none 0 0] 94)
 clear hs hq hL
 go_enter Tryz.func53, Tryz.ntmps53
 go_wp2_with fail
 refine (HP _ (HL.out.call A0.out)).out.mono ?_; rintro e w1 ⟨⟨v1, rfl, hv1, -⟩, hb1⟩
 have iq := isQ_of HQ.out (hv1 rfl)
 obtain ⟨m1, a1, n1, c1, a2, n2, c2, rfl⟩ := iq.qv
 have X1 := hid (X0.out.call hb1)
 have y1 := hid (bnext A0.out hb1)
 have A1 := hid ((Below.refl w1.heap.size w1).alloc (Nat.le_refl _) (.cells #[.bool m1, .slice a1 n1 c1, .slice a2 n2 c2] 94))
 have Z1 := hid (Blk.new w1 #[.bool m1, .slice a1 n1 c1, .slice a2 n2 c2] 94)
 have X2 := hid (X1.out.call A1.out)
 have y2 := hid (bnext y1.out A1.out)
 have Q2 := hid (iq.call A1.out)
 clear hb1 hv1 X1 y1 iq
 have d0 := X2.out.cell 0
 have d1 := X2.out.cell 1
 have d2 := X2.out.cell 2
 have e0 := X2.out.free 0
 have e1 := X2.out.free 1
 have e2 := X2.out.free 2
 have g0 := Z1.out.cell 0
 have g1 := Z1.out.cell 1
 have g2 := Z1.out.cell 2
 simp at d0 d1 d2 g0 g1 g2
 go_wp2_with fail
 obtain ⟨s1, s2⟩ := set3 X2.out m1 a1 a2 n1 c1 n2 c2
 have f0 := s2.cell 0
 have f1 := s2.cell 1
 have f2 := s2.cell 2
 simp at f0 f1 f2
 refine bodyPost_ret (v := .agg #[.bool m1, .slice a1 n1 c1, .slice a2 n2 c2]) (by simp [results, Tryz.results53, go_sem, f0, f1, f2]) rfl ⟨⟨_, rfl, isQ_putU X2.out m1 a1 a2 n1 c1 n2 c2 Q2.out⟩, ?_⟩
 exact ((y2.out.setCell (Nat.le_refl _) _).setCell (Nat.le_refl _) _).setCell (Nat.le_refl _) _
theorem f_Of1 (w : World) (v : Value) (hv : IsN .u64 w v 1) : Calls Tryz.prog 125 #[v] w fun e w' => RetQ .u64 1 e w' ∧ Below w.heap.size w w' := by
 have V0 := hid hv
 have A0 := hid ((Below.refl w.heap.size w).alloc (Nat.le_refl _) (.cells #[.bool false, .slice none 0 0, .slice none 0 0] 94))
 have X0 := hid (Blk.new w #[.bool false, .slice none 0 0, .slice none 0 0] 94)
 obtain ⟨a1, c1, rfl, _⟩ := hv.openI
 obtain ⟨k1, hk1⟩ : ∃ k, (limbs 1).length = k := ⟨_, rfl⟩
 rw [hk1] at V0 ⊢
 clear hv
 go_enter Tryz.func125, Tryz.ntmps125
 go_wp2_with fail
 refine (l_Of _ 1 (by omega)).mono ?_; rintro e w1 ⟨⟨v1, rfl, hv1⟩, hb1⟩
 obtain ⟨a3, c3, rfl, _⟩ := hv1.openI
 rw [hk1] at hv1 ⊢
 have HV := hid hv1
 have V1 := hid ((V0.out.call A0.out).call hb1)
 have HB := hid (X0.out.call hb1)
 have d0 := HB.out.cell 0
 have d1 := HB.out.cell 1
 have d2 := HB.out.cell 2
 have e0 := HB.out.free 0
 have e1 := HB.out.free 1
 have e2 := HB.out.free 2
 have HBB := hid (bnext A0.out hb1)
 clear hb1 hv1
 simp at d0 d1 d2
 go_wp2_with fail
 obtain ⟨s1, s2⟩ := set3 HB.out false a1 a3 k1 c1 k1 c3
 have f0 := s2.cell 0
 have f1 := s2.cell 1
 have f2 := s2.cell 2
 simp at f0 f1 f2
 refine bodyPost_ret (v := .agg #[.bool false, .slice a1 k1 c1, .slice a3 k1 c3]) (by simp [results, Tryz.results125, go_sem, f0, f1, f2]) rfl ⟨⟨_, rfl, ⟨.slice a1 k1 c1, .slice a3 k1 c3, rfl, s1 _ _ _ V1.out, s1 _ _ _ HV.out⟩⟩, ?_⟩
 exact ((HBB.out.setCell (Nat.le_refl _) _).setCell (Nat.le_refl _) _).setCell (Nat.le_refl _) _
theorem f_One (w : World) : Calls Tryz.prog 56 #[] w fun e w' => RetQ .u64 1 e w' ∧ Below w.heap.size w w' := by
 have A0 := hid ((Below.refl w.heap.size w).alloc (Nat.le_refl _) (.cells #[.bool false, .slice none 0 0, .slice none 0 0] 94))
 have X0 := hid (Blk.new w #[.bool false, .slice none 0 0, .slice none 0 0] 94)
 go_enter Tryz.func56, Tryz.ntmps56
 go_wp2_with fail
 refine (l_Of _ 1 (by omega)).mono ?_; rintro e w1 ⟨⟨v1, rfl, hv1⟩, hb1⟩
 have V1 := hid hv1
 have y1 := hid (bnext A0.out hb1)
 have X1 := hid (X0.out.call hb1)
 obtain ⟨a1, c1, rfl, _⟩ := hv1.openI
 clear hb1 hv1 A0 X0
 go_wp2_with fail
 refine (f_Of1 _ _ V1.out).mono ?_; rintro e w2 ⟨⟨v2, rfl, hv2⟩, hb2⟩
 obtain ⟨m2, a2, n2, c2, b2, d2', e2', rfl⟩ := hv2.qv
 have Q2 := hid hv2
 have y2 := hid (bnext y1.out hb2)
 have X2 := hid (X1.out.call hb2)
 clear hb2 hv2
 have d0 := X2.out.cell 0
 have d1 := X2.out.cell 1
 have d2 := X2.out.cell 2
 have e0 := X2.out.free 0
 have e1 := X2.out.free 1
 have e2 := X2.out.free 2
 simp at d0 d1 d2
 go_wp2_with fail
 obtain ⟨s1, s2⟩ := set3 X2.out m2 a2 b2 n2 c2 d2' e2'
 have f0 := s2.cell 0
 have f1 := s2.cell 1
 have f2 := s2.cell 2
 simp at f0 f1 f2
 refine bodyPost_ret (v := .agg #[.bool m2, .slice a2 n2 c2, .slice b2 d2' e2']) (by simp [results, Tryz.results56, go_sem, f0, f1, f2]) rfl ⟨⟨_, rfl, isQ_putU X2.out m2 a2 b2 n2 c2 d2' e2' Q2.out⟩, ?_⟩
 exact ((y2.out.setCell (Nat.le_refl _) _).setCell (Nat.le_refl _) _).setCell (Nat.le_refl _) _
theorem dig_fits {q : Rat} (h : ¬ ovQ q) : Dig 4000 q := by
 unfold ovQ at h
 have e1 : nDigits q.num.natAbs ≤ 4000 := by omega
 have e2 : nDigits q.den ≤ 4000 := by omega
 obtain ⟨K, hK⟩ : ∃ K, K = 4000 := ⟨_, rfl⟩
 rw [← hK] at e1 e2 ⊢
 exact ⟨Nat.lt_of_lt_of_le (Go.Lib.lt_pow_nDigits _) (Nat.pow_le_pow_right (by decide) e1), Nat.lt_of_lt_of_le (Go.Lib.lt_pow_nDigits _) (Nat.pow_le_pow_right (by decide) e2)⟩
theorem sp_Half (w : World) (s : ByteArray) (hs : s.size ≤ 1000000) (hL : Lay w) :
 Calls Tryz.prog 15 #[.string s] w fun e w' => e = .returned (.tuple #[.string (hlB s), .int .i64 (hlE s)]) ∧ Below w.heap.size w w' := by
 have HC := hid (q_Cmp w s t1 hs (by decide) hL)
 unfold t1 at HC
 by_cases hq : qE s = 0
 ·have hcE : cmE s ⟨#[49]⟩ = 0 := by unfold cmE; rw [if_pos hq]; exact qE_t1
  have hcB : cmB s ⟨#[49]⟩ = ordQ (vQ s) 1 := by unfold cmB; rw [if_pos ⟨hq, qE_t1⟩]; exact congrArg _ vQ_t1
  rw [hcE, hcB] at HC
  by_cases hlt : ordQ (vQ s) 1 < 0
  ·have eE : hlE s = 2 := by unfold hlE; rw [if_neg (by simpa using hq), if_pos hlt]
   have eB : hlB s = ⟨#[]⟩ := hl_err (by rw [eE]; decide)
   rw [eE, eB]
   obtain ⟨z, hz⟩ : ∃ z, ordQ (vQ s) 1 = z := ⟨_, rfl⟩
   rw [hz] at HC hlt
   have t0 : decide (z < 0) = true := decide_eq_true hlt
   clear hs hL hq hcE hcB hlt eE eB hz
   go_enter Tryz.func15, Tryz.ntmps15
   go_wp2_with fail
   refine HC.out.mono ?_; rintro e w1 ⟨rfl, hb1⟩
   have y1 := hid hb1; clear hb1
   go_wp2_with fail
   go_ret2
   exact ⟨rfl, y1.out⟩
  ·have h1 : 1 ≤ vQ s := ordQ_lt1 hlt
   have eE : hlE s = outE (hfQ (vQ s)) := by unfold hlE; rw [if_neg (by simpa using hq), if_neg hlt]
   have eB : hlB s = outB (hfQ (vQ s)) := by unfold hlB; rw [if_pos ⟨hq, hlt⟩]
   rw [eE, eB]
   have d0 := dig_fits (vQ_fits hq)
   have d2 : Dig 8001 (vQ s + vQ s) := dig_add d0 d0
   have d3 : Dig 4002 (vQ s + 1) := dig_add d0 dig_one
   have hne : vQ s + 1 ≠ 0 := by grind
   have d4 : Dig 12003 (hfQ (vQ s)) := by unfold hfQ; rw [Rat.div_def]; exact dig_mul d2 (dig_inv hne d3)
   have b0 := d0.limbs (L := 100000) (by omega) (by omega)
   have b1 := (dig_one).limbs (L := 100000) (by omega) (by omega)
   have b2 := d2.limbs (L := 100000) (by omega) (by omega)
   have b3 := d3.limbs (L := 100000) (by omega) (by omega)
   have b4 := d4.limbs (L := 100000) (by omega) (by omega)
   have HM := fun V hV => hid (f_Must V s hs hq hV)
   have HA := fun V v u hv hu => hid (f_Add V v u (vQ s) (vQ s) hv hu b0.1 b0.2 b0.1 b0.2)
   have HO := fun V => hid (f_One V)
   have HB := fun V v u hv hu => hid (f_Add V v u (vQ s) 1 hv hu b0.1 b0.2 b1.1 b1.2)
   have HD := fun V v u hv hu => hid (f_Div V v u (vQ s + vQ s) (vQ s + 1) hv hu hne b2.1 b2.2 b3.1 b3.2)
   have HN := fun V v hv hV => hid (f_Num V v (hfQ (vQ s)) hv (Nat.le_trans b4.1 (by omega)) (Nat.le_trans b4.2 (by omega)) hV)
   have hhf : (vQ s + vQ s) / (vQ s + 1) = hfQ (vQ s) := rfl
   rw [hhf] at HD
   have HL := hid hL
   obtain ⟨z, hz⟩ : ∃ z, ordQ (vQ s) 1 = z := ⟨_, rfl⟩
   rw [hz] at HC hlt
   have t0 : decide (z < 0) = false := decide_eq_false hlt
   obtain ⟨q, hqq⟩ : ∃ q, vQ s = q := ⟨_, rfl⟩
   rw [hqq] at HM HA HB HD HN ⊢
   obtain ⟨OB, hOB⟩ : ∃ x, outB (hfQ q) = x := ⟨_, rfl⟩
   obtain ⟨OE, hOE⟩ : ∃ x, outE (hfQ q) = x := ⟨_, rfl⟩
   rw [hOB, hOE] at HN ⊢
   clear hs hL hq hcE hcB hlt h1 eE eB d0 d2 d3 d4 hne b0 b1 b2 b3 b4 hhf hz hqq hOB hOE
   go_enter Tryz.func15, Tryz.ntmps15
   go_wp2_with fail
   refine HC.out.mono ?_; rintro e w1 ⟨rfl, hb1⟩
   have y1 := hid hb1; clear hb1
   go_wp2_with fail
   refine (HM _ (HL.out.call y1.out)).out.mono ?_; rintro e w2 ⟨⟨v2, rfl, hv2⟩, hb2⟩
   obtain ⟨m2, a2, n2, c2, b2, d2, e2, rfl⟩ := hv2.qv
   have A2 := hid ((Below.refl w2.heap.size w2).alloc (Nat.le_refl _) (.cells #[.bool m2, .slice a2 n2 c2, .slice b2 d2 e2] 94))
   have X2 := hid (Blk.new w2 #[.bool m2, .slice a2 n2 c2, .slice b2 d2 e2] 94)
   have y2 := hid (bnext (bnext y1.out hb2) A2.out)
   have Q2 := hid (hv2.call A2.out)
   clear hb2 hv2 y1
   go_wp2_with fail
   obtain ⟨W, hW⟩ : ∃ W, w2.alloc (.cells #[.bool m2, .slice a2 n2 c2, .slice b2 d2 e2] 94) = W := ⟨_, rfl⟩
   obtain ⟨g, hg⟩ : ∃ g, w2.heap.size = g := ⟨_, rfl⟩
   rw [hW] at y2 X2 Q2 ⊢
   rw [hg] at X2 ⊢
   have KK : Hid (∀ V, Below W.heap.size W V → V.cell? ⟨g, 0, none⟩ = some (.bool m2) ∧ V.cell? ⟨g, 1, none⟩ = some (.slice a2 n2 c2) ∧ V.cell? ⟨g, 2, none⟩ = some (.slice b2 d2 e2)) := fun V hV =>
    ⟨(X2.out.call hV).cell 0, (X2.out.call hV).cell 1, (X2.out.call hV).cell 2⟩
   clear A2 X2 hW hg
   refine held_plain [0, 1, 3] 9 (fun V => V.cell? ⟨g, 0, none⟩ = some (.bool m2) ∧ V.cell? ⟨g, 1, none⟩ = some (.slice a2 n2 c2) ∧ V.cell? ⟨g, 2, none⟩ = some (.slice b2 d2 e2)) (by kernel_rfl) (by kernel_rfl) (by kernel_rfl) (by kernel_rfl) (KK.out _ (Below.refl _ _).drew) ?_
   iterate 3
    refine ⟨_, rfl, ?_⟩
    apply Exists.intro
    refine ⟨.inl ⟨by rfl, ?_⟩, ?_⟩
    ·(intro W' hW'; obtain ⟨q7, q8, q9⟩ := hW'; go_simp; try (with_reducible rfl))
    (dsimp only [Act.put]; try simp only [List.setIfInBounds_toArray, List.set_cons_zero, List.set_cons_succ])
   refine held_one (i := 2) (by kernel_rfl) (by rfl) (by rfl) ?_
   go_wp2_with fail
   refine (HA _ _ _ (Q2.out.call (Below.refl _ _).drew) (Q2.out.call (Below.refl _ _).drew)).out.mono ?_; rintro e v1 ⟨⟨u1', rfl, hv⟩, hb⟩
   obtain ⟨m1', a1', n1', c1', b1', d1', e1', rfl⟩ := hv.qv
   have z1 := hid (show Below W.heap.size W v1 from (Below.refl _ _).drew.trans hb)
   have C1 := hid hv
   clear hb hv
   go_wp2_with fail
   refine ⟨KK.out _ z1.out, ?_⟩
   refine held_one (i := 4) (by kernel_rfl) (by rfl) (by rfl) ?_
   go_wp2_with fail
   refine (HO _).out.mono ?_; rintro e v2 ⟨⟨u2', rfl, hv⟩, hb⟩
   obtain ⟨m2', a2', n2', c2', b2', d2', e2', rfl⟩ := hv.qv
   have z2 := hid (bnext z1.out hb)
   have C2 := hid (C1.out.call hb)
   have O2 := hid hv
   clear hb hv
   go_wp2_with fail
   refine ⟨KK.out _ z2.out, ?_⟩
   refine held_one (i := 5) (by kernel_rfl) (by rfl) (by rfl) ?_
   go_wp2_with fail
   refine (HB _ _ _ (Q2.out.call z2.out) O2.out).out.mono ?_; rintro e v3 ⟨⟨u3', rfl, hv⟩, hb⟩
   obtain ⟨m3', a3', n3', c3', b3', d3', e3', rfl⟩ := hv.qv
   have z3 := hid (bnext z2.out hb)
   have C3 := hid (C2.out.call hb)
   have O3 := hid (O2.out.call hb)
   have S3 := hid hv
   clear hb hv
   go_wp2_with fail
   refine ⟨KK.out _ z3.out, ?_⟩
   refine held_one (i := 6) (by kernel_rfl) (by rfl) (by rfl) ?_
   go_wp2_with fail
   refine (HD _ _ _ C3.out S3.out).out.mono ?_; rintro e v4 ⟨⟨u4', rfl, hv⟩, hb⟩
   obtain ⟨m4', a4', n4', c4', b4', d4', e4', rfl⟩ := hv.qv
   have z4 := hid (bnext z3.out hb)
   have C4 := hid (C3.out.call hb)
   have O4 := hid (O3.out.call hb)
   have S4 := hid (S3.out.call hb)
   have D4 := hid hv
   clear hb hv
   go_wp2_with fail
   refine ⟨KK.out _ z4.out, ?_⟩
   refine held_one (i := 7) (by kernel_rfl) (by rfl) (by rfl) ?_
   go_wp2_with fail
   refine (HN _ _ D4.out (HL.out.call (bnext y2.out z4.out))).out.mono ?_; rintro e v5 ⟨rfl, hb⟩
   have z5 := hid (bnext z4.out hb); clear hb
   go_wp2_with fail
   refine ⟨KK.out _ z5.out, ?_⟩
   refine held_more (is := [8, 9, 10, 11]) (g := 0) (by kernel_rfl) rfl (KK.out _ z5.out) (by kernel_rfl) ?_
   iterate 4
    refine ⟨_, rfl, ?_⟩
    apply Exists.intro
    refine ⟨.inl ⟨by rfl, ?_⟩, ?_⟩
    ·(intro W' hW'; obtain ⟨q7, q8, q9⟩ := hW'; go_simp; try (with_reducible rfl))
    (dsimp only [Act.put]; try simp only [List.setIfInBounds_toArray, List.set_cons_zero, List.set_cons_succ])
   refine wpAnyH_done (by kernel_rfl) ?_ _
   simp only [Only]
   go_wp2_with fail
   go_ret2
   exact ⟨rfl, bnext y2.out z5.out⟩
 ·have hcE : cmE s ⟨#[49]⟩ = qE s := by unfold cmE; rw [if_neg hq]
  have eE : hlE s = qE s := by unfold hlE; rw [if_pos hq]
  have eB : hlB s = ⟨#[]⟩ := hl_err (by rw [eE]; exact hq)
  rw [hcE] at HC
  rw [eE, eB]
  obtain ⟨z, hz⟩ : ∃ z, cmB s ⟨#[49]⟩ = z := ⟨_, rfl⟩
  obtain ⟨x, hx⟩ : ∃ z, qE s = z := ⟨_, rfl⟩
  rw [hz, hx] at HC
  rw [hx] at hq ⊢
  have t0 : (x != 0) = true := by simpa using hq
  clear hs hL hq hcE eE eB hz hx
  go_enter Tryz.func15, Tryz.ntmps15
  go_wp2_with fail
  refine HC.out.mono ?_; rintro e w1 ⟨rfl, hb1⟩
  have y1 := hid hb1; clear hb1
  go_wp2_with fail
  go_ret2
  exact ⟨rfl, y1.out⟩
theorem hlB_size (s : ByteArray) : (hlB s).size ≤ 10000 := by
 unfold hlB
 split
 ·exact outB_size _
 ·exact Nat.zero_le _
theorem w_SparseHalf (w : World) (r s : ByteArray) (hr : r.size ≤ maxLen) (hs : s.size ≤ maxLen) (hL : LayB w) :
 Calls Tryz.prog 5 #[.string r, .string s] w fun e w' => e = .returned (.bool true) ∧ Below w.heap.size w w' := by
 unfold maxLen at hr hs
 have HLV := hid (w_lives24 w hL)
 by_cases c1 : 300 < r.size
 ·have t1 : decide ((300 : Int) < (r.size : Int)) = true := decide_eq_true (by omega)
  clear hL c1 hr hs
  go_enter Tryz.func5, Tryz.ntmps5
  go_wp2_with fail
  refine HLV.out.mono ?_; rintro e w1 ⟨rfl, hb1⟩
  go_wp2_with fail
  go_ret
  exact ⟨rfl, hb1⟩
 have t1 : decide ((300 : Int) < (r.size : Int)) = false := decide_eq_false (by omega)
 by_cases c2 : 300 < s.size
 ·have t2 : decide ((300 : Int) < (s.size : Int)) = true := decide_eq_true (by omega)
  clear hL c1 c2 hr hs
  go_enter Tryz.func5, Tryz.ntmps5
  go_wp2_with fail
  refine HLV.out.mono ?_; rintro e w1 ⟨rfl, hb1⟩
  go_wp2_with fail
  go_ret
  exact ⟨rfl, hb1⟩
 have t2 : decide ((300 : Int) < (s.size : Int)) = false := decide_eq_false (by omega)
 have HL := hid hL
 have P1 := fun V hV => hid (sp_Half V r (by omega) hV)
 have P2 := fun V hV => hid (sp_Half V s (by omega) hV)
 have zx := hlB_size r
 have zy := hlB_size s
 by_cases h1 : hlE r = 0
 ·by_cases h2 : hlE s = 0
  ·have k1 := hl_sq h1 (by omega)
   have k2 : 0 ≤ cmB (hlB r) ⟨#[49]⟩ := hl_one h1
   have k3 := hl_ord h1 h2
   have Q1 := fun V => hid (r2_Mul V (hlB r) (hlB r) (by omega) (by omega))
   have Q2 := fun V => hid (r2_Cmp V (op2B (· * ·) (hlB r) (hlB r)) r (Nat.le_trans (fx_size _ _ _) (by omega)) (by omega))
   have Q3 := fun V => hid (r2_Cmp V (hlB r) ⟨#[49]⟩ (by omega) (by decide))
   have Q4 := fun V => hid (r2_Cmp V r s (by omega) (by omega))
   have Q5 := fun V => hid (r2_Cmp V (hlB r) (hlB s) (by omega) (by omega))
   rw [h1] at P1
   rw [h2] at P2
   rw [k3] at Q4
   obtain ⟨x, hx⟩ : ∃ x, hlB r = x := ⟨_, rfl⟩
   obtain ⟨y, hy⟩ : ∃ y, hlB s = y := ⟨_, rfl⟩
   rw [hx] at P1 Q1 Q2 Q3 Q4 Q5 k1 k2
   rw [hy] at P2 Q4 Q5
   obtain ⟨q, hq⟩ : ∃ q, op2B (· * ·) x x = q := ⟨_, rfl⟩
   obtain ⟨qe, hqe⟩ : ∃ q, op2E (· * ·) x x = q := ⟨_, rfl⟩
   rw [hq, hqe] at Q1
   rw [hq] at Q2 k1
   obtain ⟨a, ha⟩ : ∃ z, cmB q r = z := ⟨_, rfl⟩
   obtain ⟨b, hb⟩ : ∃ z, cmB x ⟨#[49]⟩ = z := ⟨_, rfl⟩
   obtain ⟨c, hc⟩ : ∃ z, cmB x y = z := ⟨_, rfl⟩
   rw [ha] at Q2 k1
   rw [hb] at Q3 k2
   rw [hc] at Q4 Q5
   obtain ⟨e2, he2⟩ : ∃ z, cmE q r = z := ⟨_, rfl⟩
   obtain ⟨e3, he3⟩ : ∃ z, cmE x ⟨#[49]⟩ = z := ⟨_, rfl⟩
   obtain ⟨e4, he4⟩ : ∃ z, cmE r s = z := ⟨_, rfl⟩
   obtain ⟨e5, he5⟩ : ∃ z, cmE x y = z := ⟨_, rfl⟩
   rw [he2] at Q2
   rw [he3] at Q3
   rw [he4] at Q4
   rw [he5] at Q5
   have s1 : decide (a ≤ 0) = true := decide_eq_true k1
   have s2 : decide (0 ≤ b) = true := decide_eq_true k2
   clear hL c1 c2 hr hs zx zy h1 h2 k1 k2 k3 hx hy hq hqe ha hb hc he2 he3 he4 he5
   go_enter Tryz.func5, Tryz.ntmps5
   go_wp2_with fail
   refine HLV.out.mono ?_; rintro e w1 ⟨rfl, hb1⟩
   have y1 := hid hb1; clear hb1
   go_wp2_with fail
   refine (P1 _ (HL.out.call y1.out).l).out.mono ?_; rintro e w2 ⟨rfl, hb2⟩
   have y2 := hid (bnext y1.out hb2); clear hb2
   go_wp2_with fail
   refine (P2 _ (HL.out.call y2.out).l).out.mono ?_; rintro e w3 ⟨rfl, hb3⟩
   have y3 := hid (bnext y2.out hb3); clear hb3
   go_wp2_with fail
   refine (Q1 _).out.mono ?_; rintro e w4 ⟨rfl, hb4⟩
   have y4 := hid (bnext y3.out hb4); clear hb4
   go_wp2_with fail
   refine (Q2 _).out.mono ?_; rintro e w5 ⟨rfl, hb5⟩
   have y5 := hid (bnext y4.out hb5); clear hb5
   go_wp2_with fail
   refine (Q3 _).out.mono ?_; rintro e w6 ⟨rfl, hb6⟩
   have y6 := hid (bnext y5.out hb6); clear hb6
   go_wp2_with fail
   refine (Q4 _).out.mono ?_; rintro e w7 ⟨rfl, hb7⟩
   have y7 := hid (bnext y6.out hb7); clear hb7
   go_wp2_with fail
   refine (Q5 _).out.mono ?_; rintro e w8 ⟨rfl, hb8⟩
   have y8 := hid (bnext y7.out hb8); clear hb8
   go_wp2_with fail
   go_ret
   exact ⟨rfl, y8.out⟩
  ·have k2 := hl_err h2
   rw [h1] at P1
   rw [k2] at P2
   obtain ⟨x, hx⟩ : ∃ x, hlB r = x := ⟨_, rfl⟩
   obtain ⟨f, hf⟩ : ∃ x, hlE s = x := ⟨_, rfl⟩
   rw [hx] at P1
   rw [hf] at P2 h2
   have s1 : (f != 0) = true := by simpa using h2
   have s2 : (f == 0) = false := by simpa using h2
   clear hL c1 c2 hr hs zx zy h1 h2 k2 hx hf
   go_enter Tryz.func5, Tryz.ntmps5
   go_wp2_with fail
   refine HLV.out.mono ?_; rintro e w1 ⟨rfl, hb1⟩
   have y1 := hid hb1; clear hb1
   go_wp2_with fail
   refine (P1 _ (HL.out.call y1.out).l).out.mono ?_; rintro e w2 ⟨rfl, hb2⟩
   have y2 := hid (bnext y1.out hb2); clear hb2
   go_wp2_with fail
   refine (P2 _ (HL.out.call y2.out).l).out.mono ?_; rintro e w3 ⟨rfl, hb3⟩
   have y3 := hid (bnext y2.out hb3); clear hb3
   go_wp2_with fail
   go_ret
   exact ⟨rfl, y3.out⟩
 ·have k1 := hl_err h1
  rw [k1] at P1
  obtain ⟨e0, he⟩ : ∃ x, hlE r = x := ⟨_, rfl⟩
  rw [he] at P1 h1
  have s1 : (e0 != 0) = true := by simpa using h1
  have s2 : (e0 == 0) = false := by simpa using h1
  by_cases h2 : hlE s = 0
  ·rw [h2] at P2
   obtain ⟨y, hy⟩ : ∃ x, hlB s = x := ⟨_, rfl⟩
   rw [hy] at P2
   clear hL c1 c2 hr hs zx zy h1 h2 k1 he hy
   go_enter Tryz.func5, Tryz.ntmps5
   go_wp2_with fail
   refine HLV.out.mono ?_; rintro e w1 ⟨rfl, hb1⟩
   have y1 := hid hb1; clear hb1
   go_wp2_with fail
   refine (P1 _ (HL.out.call y1.out).l).out.mono ?_; rintro e w2 ⟨rfl, hb2⟩
   have y2 := hid (bnext y1.out hb2); clear hb2
   go_wp2_with fail
   refine (P2 _ (HL.out.call y2.out).l).out.mono ?_; rintro e w3 ⟨rfl, hb3⟩
   have y3 := hid (bnext y2.out hb3); clear hb3
   go_wp2_with fail
   go_ret
   exact ⟨rfl, y3.out⟩
  ·have k2 := hl_err h2
   rw [k2] at P2
   obtain ⟨f, hf⟩ : ∃ x, hlE s = x := ⟨_, rfl⟩
   rw [hf] at P2 h2
   have s3 : (f == 0) = false := by simpa using h2
   clear hL c1 c2 hr hs zx zy h1 h2 k1 k2 he hf
   go_enter Tryz.func5, Tryz.ntmps5
   go_wp2_with fail
   refine HLV.out.mono ?_; rintro e w1 ⟨rfl, hb1⟩
   have y1 := hid hb1; clear hb1
   go_wp2_with fail
   refine (P1 _ (HL.out.call y1.out).l).out.mono ?_; rintro e w2 ⟨rfl, hb2⟩
   have y2 := hid (bnext y1.out hb2); clear hb2
   go_wp2_with fail
   refine (P2 _ (HL.out.call y2.out).l).out.mono ?_; rintro e w3 ⟨rfl, hb3⟩
   have y3 := hid (bnext y2.out hb3); clear hb3
   go_wp2_with fail
   go_ret
   exact ⟨rfl, y3.out⟩
end Go.Proofs.YtlmnpocifldpmaaGreatDoor
