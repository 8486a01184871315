/- Texts that the proof rests on, merged: Rt4, Rt5, Rp10, PcB, Pn6, Rp13, Fd4, Sq3, Fn0, Rq0, Sh6, Sm, Gd0, Gl0, Tb, En, Gl1, Gl2, Gl3, Ol. -/
import Derived.Test.YtgphopkifomffaaGreatDoorMn7
import Derived.Deep.AppendLies
import Derived.WalkLawsBesides
import Derived.Sort.Walk0
import Derived.Deep.DeepCutAuto
import Derived.Shelf.SlSortCmp.WholeK
import Derived.Shelf.SlGeneric
import Derived.Shelf.Small.Bits
import Derived.Ground.SlsfProg
import Derived.Ground.NamesProg
import Derived.Test.YtgphopkifomffaaGreatDoorProg
import Derived.Sort.OwnSortedInts
import Derived.Maps.AppendAt
import Derived.RangeFuncBox
namespace Go.Proofs.YtgphopkifomffaaGreatDoor
open Go.RowKit Go.Shelf
open Go.Lib (decDigits nDigits)
set_option linter.unusedVariables false
set_option linter.unusedSimpArgs false
set_option maxRecDepth 100000 in
set_option maxHeartbeats 1000000 in
theorem q_both (w : World) (s t : ByteArray) (F : Nat) (R : ByteArray) (x : Int) (hs : s.size ≤ 1000000) (ht : t.size ≤ 1000000) (hL : Lay w)
    (hen : ∀ args w, (callFunc F args).run Tryz.prog w = .ok (.enter F args) w)
    (hF : ∀ W v u, qE s = 0 → qE t = 0 → IsQ .u64 W v (vQ s) → IsQ .u64 W u (vQ t) → Lay W → Calls Tryz.prog F #[v, u] W fun e w' => e = .returned (.tuple #[.string R, .int .i64 x]) ∧ Below W.heap.size W w') :
    Calls Tryz.prog 58 #[.string s, .string t, .func (.func F) #[] #[]] w fun e w' => e = .returned (.tuple #[.string (tB R s t), .int .i64 (tE x s t)]) ∧ Below w.heap.size w w' := by
  have HF := hid hF
  have HL := hid hL
  have HEN := hid hen
  have HT := hid ht
  have b1 := hid ((Below.refl w.heap.size w).alloc (Nat.le_refl _) (.cells #[.string t] 22))
  obtain ⟨w1, hw1⟩ : ∃ w1, w.alloc (.cells #[.string t] 22) = w1 := ⟨_, rfl⟩
  obtain ⟨g1, hg1⟩ : ∃ g, w.heap.size = g := ⟨_, rfl⟩
  have X1 := hid (Blk.new w #[.string t] 22)
  rw [hw1] at b1
  rw [hw1, hg1] at X1
  have b2 := hid ((Below.refl w1.heap.size w1).alloc (Nat.le_refl _) (.cells #[.func (.func F) #[] #[]] 104))
  obtain ⟨w2, hw2⟩ : ∃ w2, w1.alloc (.cells #[.func (.func F) #[] #[]] 104) = w2 := ⟨_, rfl⟩
  have X2 := hid (Blk.new w1 #[.func (.func F) #[] #[]] 104)
  have X12 := hid (X1.out.call b2.out)
  have y2 := hid (bnext b1.out b2.out)
  have hg2 : w1.heap.size = g1 + 1 := by rw [← hw1, ← hg1]; simp
  rw [hw2] at b2 X12 y2
  rw [hw2, hg2] at X2
  have L2 := hid (HL.out.call y2.out)
  have W2 := hid (q_with w2 s 103 #[.pointer (some ⟨g1, 0, none⟩), .pointer (some ⟨g1 + 1, 0, none⟩)] (wB R t) (wE x t) hs L2.out (enters_of Tryz.func103 (by kernel_rfl) rfl)
    (fun W v hq hb hv hLW => by
      have hX1 := (X12.out.call hb).cell 0
      have hX2 := (X2.out.call hb).cell 0
      exact q_both1 W v t (vQ s) F g1 (g1 + 1) R x HT.out hv hLW HEN.out hX1 hX2 (fun W v u h0 h1 h2 h3 => HF.out W v u hq h0 h1 h2 h3)))
  have HW1 := hid hw1; have HW2 := hid hw2; have HG1 := hid hg1
  clear hF hL hen hs ht hw1 hw2 hg1 hg2 b1
  go_enter Tryz.func58, Tryz.ntmps58
  go_wp2_with fail
  have hw1 := HW1.out; have hw2 := HW2.out; have hg1 := HG1.out
  rw [hw1, hg1, hw2]
  refine W2.out.mono ?_; rintro e w3 ⟨rfl, hb3⟩
  have y3 := hid (bnext y2.out hb3)
  clear hb3 hw1 hw2 hg1
  go_wp2_with fail
  go_ret2
  exact ⟨rfl, by have := y3.out; exact this⟩
end Go.Proofs.YtgphopkifomffaaGreatDoor
namespace Go.Proofs.YtgphopkifomffaaGreatDoor
open Go.RowKit Go.Shelf
open Go.Lib (decDigits nDigits)
set_option linter.unusedVariables false
set_option linter.unusedSimpArgs false
structure Sml (K : Nat) (q : Rat) : Prop where
  n : (limbs q.num.natAbs).length ≤ K
  d : (limbs q.den).length ≤ K
theorem sml_vQ {s : ByteArray} (h : qE s = 0) : Sml 1000 (vQ s) := by
  obtain ⟨-, e2, e3⟩ := vQ_ok h
  obtain ⟨-, -, -, l1, l2, -⟩ := valid h
  exact ⟨by rw [e2]; exact Nat.le_trans (limbs_of_digits l1) (by omega), by rw [e3]; exact Nat.le_trans (limbs_of_digits l2) (by omega)⟩
theorem Sml.up {K L : Nat} {q : Rat} (h : Sml K q) (hl : K ≤ L) : Sml L q := ⟨Nat.le_trans h.n hl, Nat.le_trans h.d hl⟩
theorem sml_neg {K : Nat} {q : Rat} (h : Sml K q) : Sml K (-q) := ⟨by rw [Rat.neg_num, Int.natAbs_neg]; exact h.n, by rw [Rat.neg_den]; exact h.d⟩
theorem sml_mk {K : Nat} {z : Int} {d : Nat} (hd : 0 < d) (h1 : (limbs z.natAbs).length ≤ K) (h2 : (limbs d).length ≤ K) : Sml K (mkRat z d) := by
  refine ⟨?_, ?_⟩
  · rw [Rat.num_mkRat, if_neg (by omega)]
    refine Nat.le_trans (limbs_length_mono ?_) h1
    exact Int.natAbs_ediv_le_natAbs _ _
  · rw [Rat.den_mkRat, if_neg (by omega)]
    exact Nat.le_trans (limbs_length_mono (Nat.div_le_self _ _)) h2
theorem sml_mulK {K L : Nat} {p q : Rat} (hp : Sml K p) (hq : Sml L q) : Sml (K + L) (p * q) := by
  rw [← qmk_mul]
  unfold qmk
  exact sml_mk (Nat.mul_pos p.den_pos q.den_pos) (by rw [sgn_natAbs]; exact limbs_mul hp.n hq.n) (limbs_mul hp.d hq.d)
theorem sml_addK {K L : Nat} {p q : Rat} (hp : Sml K p) (hq : Sml L q) : Sml (K + L + (K + L) + 1) (p + q) := by
  rw [q_add]
  refine sml_mk (Nat.mul_pos p.den_pos q.den_pos) ?_ (Nat.le_trans (limbs_mul hp.d hq.d) (by omega))
  refine Nat.le_trans (limbs_length_mono (sgn_abs_le _ _ _ _)) ?_
  exact Nat.le_trans (len_add (limbs_mul hp.n hq.d) (limbs_mul hq.n hp.d)) (by omega)
theorem sml_mul {p q : Rat} (hp : Sml 1000 p) (hq : Sml 1000 q) : Sml 10000 (p * q) := (sml_mulK hp hq).up (by omega)
theorem sml_add {p q : Rat} (hp : Sml 1000 p) (hq : Sml 1000 q) : Sml 10000 (p + q) := (sml_addK hp hq).up (by omega)
theorem sml_sub {p q : Rat} (hp : Sml 1000 p) (hq : Sml 1000 q) : Sml 10000 (p - q) := by rw [Rat.sub_eq_add_neg]; exact sml_add hp (sml_neg hq)
theorem t2B {f : Rat → Rat → Rat} {s t : ByteArray} : tB (outB (f (vQ s) (vQ t))) s t = op2B f s t := by
  unfold tB wB op2B
  by_cases h1 : qE s = 0 <;> by_cases h2 : qE t = 0 <;> simp [h1, h2]
theorem t2E {f : Rat → Rat → Rat} {s t : ByteArray} : tE (outE (f (vQ s) (vQ t))) s t = op2E f s t := by
  unfold tE wE op2E
  by_cases h1 : qE s = 0 <;> by_cases h2 : qE t = 0 <;> simp [h1, h2]
set_option maxRecDepth 100000 in
set_option maxHeartbeats 1000000 in
theorem q_Mul1 (w : World) (v u : Value) (p q : Rat) (hp : IsQ .u64 w v p) (hq : IsQ .u64 w u q) (sp : Sml 1000 p) (sq : Sml 1000 q) (hL : Lay w) :
    Calls Tryz.prog 62 #[v, u] w fun e w' => e = .returned (.tuple #[.string (outB (p * q)), .int .i64 (outE (p * q))]) ∧ Below w.heap.size w w' := by
  have F1 := fun V v u hv hu => hid (f_Mul V v u p q hv hu (Nat.le_trans sp.n (by omega)) (Nat.le_trans sp.d (by omega)) (Nat.le_trans sq.n (by omega)) (Nat.le_trans sq.d (by omega)))
  have SQ := sml_mul sp sq
  have F2 := fun V v hv hV => hid (f_Num V v (p * q) hv (Nat.le_trans SQ.n (by omega)) (Nat.le_trans SQ.d (by omega)) hV)
  obtain ⟨Q, hQ⟩ : ∃ Q, p * q = Q := ⟨_, rfl⟩
  rw [hQ] at F1 F2 ⊢
  have HL := hid hL
  obtain ⟨N1, D1, rfl, hn1, hd1⟩ := hp.ex
  obtain ⟨N2, D2, rfl, hn2, hd2⟩ := hq.ex
  obtain ⟨a1, c1, rfl, _⟩ := hn1.openI
  obtain ⟨a2, c2, rfl, _⟩ := hd1.openI
  obtain ⟨a3, c3, rfl, _⟩ := hn2.openI
  obtain ⟨a4, c4, rfl, _⟩ := hd2.openI
  obtain ⟨k1, hk1⟩ : ∃ k, (limbs p.num.natAbs).length = k := ⟨_, rfl⟩
  obtain ⟨k2, hk2⟩ : ∃ k, (limbs p.den).length = k := ⟨_, rfl⟩
  obtain ⟨k3, hk3⟩ : ∃ k, (limbs q.num.natAbs).length = k := ⟨_, rfl⟩
  obtain ⟨k4, hk4⟩ : ∃ k, (limbs q.den).length = k := ⟨_, rfl⟩
  obtain ⟨m1, hm1⟩ : ∃ m, decide (p.num < 0) = m := ⟨_, rfl⟩
  obtain ⟨m2, hm2⟩ : ∃ m, decide (q.num < 0) = m := ⟨_, rfl⟩
  rw [hk1, hk2, hm1] at hp ⊢
  rw [hk3, hk4, hm2] at hq ⊢
  have X1 := hid (Blk.new w #[.bool m1, .slice a1 k1 c1, .slice a2 k2 c2] 101)
  have b1 := hid ((Below.refl w.heap.size w).alloc (Nat.le_refl _) (.cells #[.bool m1, .slice a1 k1 c1, .slice a2 k2 c2] 101))
  have Y1 := hid (X1.out.alloc (.cells #[.bool m2, .slice a3 k3 c3, .slice a4 k4 c4] 101))
  have X2 := hid (Blk.new (w.alloc (.cells #[.bool m1, .slice a1 k1 c1, .slice a2 k2 c2] 101)) #[.bool m2, .slice a3 k3 c3, .slice a4 k4 c4] 101)
  have b2 := hid (b1.out.alloc b1.out.size (.cells #[.bool m2, .slice a3 k3 c3, .slice a4 k4 c4] 101))
  have P2 := hid (hp.call b2.out)
  have Q2 := hid (hq.call b2.out)
  have r0 := Y1.out.cell 0
  have r1 := Y1.out.cell 1
  have r2 := Y1.out.cell 2
  have s0 := X2.out.cell 0
  have s1 := X2.out.cell 1
  have s2 := X2.out.cell 2
  simp at r0 r1 r2 s0 s1 s2
  clear hk1 hk2 hk3 hk4 hm1 hm2 hn1 hn2 hd1 hd2 hp hq hL sp sq SQ hQ
  go_enter Tryz.func62, Tryz.ntmps62
  go_wp2_with fail
  refine (F1 _ _ _ P2.out Q2.out).out.mono ?_; rintro e w3 ⟨⟨v3, rfl, hv3⟩, hb3⟩
  have y3 := hid (bnext b2.out hb3)
  obtain ⟨N3, D3, rfl, hn3, hd3⟩ := hv3.ex
  obtain ⟨a5, c5, rfl, _⟩ := hn3.openI
  obtain ⟨a6, c6, rfl, _⟩ := hd3.openI
  obtain ⟨k5, hk5⟩ : ∃ k, (limbs Q.num.natAbs).length = k := ⟨_, rfl⟩
  obtain ⟨k6, hk6⟩ : ∃ k, (limbs Q.den).length = k := ⟨_, rfl⟩
  obtain ⟨m3, hm3⟩ : ∃ m, decide (Q.num < 0) = m := ⟨_, rfl⟩
  rw [hk5, hk6, hm3] at hv3 ⊢
  have V3 := hid hv3
  clear hb3 hv3 hn3 hd3 hk5 hk6 hm3
  go_wp2_with fail
  refine (F2 _ _ V3.out (HL.out.call y3.out)).out.mono ?_; rintro e w4 ⟨rfl, hb4⟩
  have y4 := hid (bnext y3.out hb4); clear hb4
  go_wp2_with fail
  go_ret2
  exact ⟨rfl, y4.out⟩
set_option maxRecDepth 100000 in
set_option maxHeartbeats 1000000 in
theorem q_Mul (w : World) (s t : ByteArray) (hs : s.size ≤ 1000000) (ht : t.size ≤ 1000000) (hL : Lay w) :
    Calls Tryz.prog 30 #[.string s, .string t] w fun e w' => e = .returned (.tuple #[.string (op2B (· * ·) s t), .int .i64 (op2E (· * ·) s t)]) ∧ Below w.heap.size w w' := by
  have H := hid (q_both w s t 62 (outB (vQ s * vQ t)) (outE (vQ s * vQ t)) hs ht hL (enters_of Tryz.func62 (by kernel_rfl) rfl)
    (fun W v u h1 h2 hv hu hLW => q_Mul1 W v u _ _ hv hu (sml_vQ h1) (sml_vQ h2) hLW))
  rw [t2B, t2E (f := (· * ·))] at H
  obtain ⟨B, hB⟩ : ∃ B, op2B (· * ·) s t = B := ⟨_, rfl⟩
  obtain ⟨E, hE⟩ : ∃ E, op2E (· * ·) s t = E := ⟨_, rfl⟩
  rw [hB, hE] at H ⊢
  clear hB hE hs ht hL
  go_enter Tryz.func30, Tryz.ntmps30
  go_wp2_with fail
  refine H.out.mono ?_; rintro e w1 ⟨rfl, hb1⟩
  have y1 := hid hb1; clear hb1
  go_wp2_with fail
  go_ret2
  exact ⟨rfl, y1.out⟩
set_option maxRecDepth 100000 in
set_option maxHeartbeats 1000000 in
theorem q_Sub1 (w : World) (v u : Value) (p q : Rat) (hp : IsQ .u64 w v p) (hq : IsQ .u64 w u q) (sp : Sml 1000 p) (sq : Sml 1000 q) (hL : Lay w) :
    Calls Tryz.prog 59 #[v, u] w fun e w' => e = .returned (.tuple #[.string (outB (p - q)), .int .i64 (outE (p - q))]) ∧ Below w.heap.size w w' := by
  have F1 := fun V v u hv hu => hid (f_Sub V v u p q hv hu (Nat.le_trans sp.n (by omega)) (Nat.le_trans sp.d (by omega)) (Nat.le_trans sq.n (by omega)) (Nat.le_trans sq.d (by omega)))
  have SQ := sml_sub sp sq
  have F2 := fun V v hv hV => hid (f_Num V v (p - q) hv (Nat.le_trans SQ.n (by omega)) (Nat.le_trans SQ.d (by omega)) hV)
  obtain ⟨Q, hQ⟩ : ∃ Q, p - q = Q := ⟨_, rfl⟩
  rw [hQ] at F1 F2 ⊢
  have HL := hid hL
  obtain ⟨N1, D1, rfl, hn1, hd1⟩ := hp.ex
  obtain ⟨N2, D2, rfl, hn2, hd2⟩ := hq.ex
  obtain ⟨a1, c1, rfl, _⟩ := hn1.openI
  obtain ⟨a2, c2, rfl, _⟩ := hd1.openI
  obtain ⟨a3, c3, rfl, _⟩ := hn2.openI
  obtain ⟨a4, c4, rfl, _⟩ := hd2.openI
  obtain ⟨k1, hk1⟩ : ∃ k, (limbs p.num.natAbs).length = k := ⟨_, rfl⟩
  obtain ⟨k2, hk2⟩ : ∃ k, (limbs p.den).length = k := ⟨_, rfl⟩
  obtain ⟨k3, hk3⟩ : ∃ k, (limbs q.num.natAbs).length = k := ⟨_, rfl⟩
  obtain ⟨k4, hk4⟩ : ∃ k, (limbs q.den).length = k := ⟨_, rfl⟩
  obtain ⟨m1, hm1⟩ : ∃ m, decide (p.num < 0) = m := ⟨_, rfl⟩
  obtain ⟨m2, hm2⟩ : ∃ m, decide (q.num < 0) = m := ⟨_, rfl⟩
  rw [hk1, hk2, hm1] at hp ⊢
  rw [hk3, hk4, hm2] at hq ⊢
  have X1 := hid (Blk.new w #[.bool m1, .slice a1 k1 c1, .slice a2 k2 c2] 101)
  have b1 := hid ((Below.refl w.heap.size w).alloc (Nat.le_refl _) (.cells #[.bool m1, .slice a1 k1 c1, .slice a2 k2 c2] 101))
  have Y1 := hid (X1.out.alloc (.cells #[.bool m2, .slice a3 k3 c3, .slice a4 k4 c4] 101))
  have X2 := hid (Blk.new (w.alloc (.cells #[.bool m1, .slice a1 k1 c1, .slice a2 k2 c2] 101)) #[.bool m2, .slice a3 k3 c3, .slice a4 k4 c4] 101)
  have b2 := hid (b1.out.alloc b1.out.size (.cells #[.bool m2, .slice a3 k3 c3, .slice a4 k4 c4] 101))
  have P2 := hid (hp.call b2.out)
  have Q2 := hid (hq.call b2.out)
  have r0 := Y1.out.cell 0
  have r1 := Y1.out.cell 1
  have r2 := Y1.out.cell 2
  have s0 := X2.out.cell 0
  have s1 := X2.out.cell 1
  have s2 := X2.out.cell 2
  simp at r0 r1 r2 s0 s1 s2
  clear hk1 hk2 hk3 hk4 hm1 hm2 hn1 hn2 hd1 hd2 hp hq hL sp sq SQ hQ
  go_enter Tryz.func59, Tryz.ntmps59
  go_wp2_with fail
  refine (F1 _ _ _ P2.out Q2.out).out.mono ?_; rintro e w3 ⟨⟨v3, rfl, hv3⟩, hb3⟩
  have y3 := hid (bnext b2.out hb3)
  obtain ⟨N3, D3, rfl, hn3, hd3⟩ := hv3.ex
  obtain ⟨a5, c5, rfl, _⟩ := hn3.openI
  obtain ⟨a6, c6, rfl, _⟩ := hd3.openI
  obtain ⟨k5, hk5⟩ : ∃ k, (limbs Q.num.natAbs).length = k := ⟨_, rfl⟩
  obtain ⟨k6, hk6⟩ : ∃ k, (limbs Q.den).length = k := ⟨_, rfl⟩
  obtain ⟨m3, hm3⟩ : ∃ m, decide (Q.num < 0) = m := ⟨_, rfl⟩
  rw [hk5, hk6, hm3] at hv3 ⊢
  have V3 := hid hv3
  clear hb3 hv3 hn3 hd3 hk5 hk6 hm3
  go_wp2_with fail
  refine (F2 _ _ V3.out (HL.out.call y3.out)).out.mono ?_; rintro e w4 ⟨rfl, hb4⟩
  have y4 := hid (bnext y3.out hb4); clear hb4
  go_wp2_with fail
  go_ret2
  exact ⟨rfl, y4.out⟩
set_option maxRecDepth 100000 in
set_option maxHeartbeats 1000000 in
theorem q_Sub (w : World) (s t : ByteArray) (hs : s.size ≤ 1000000) (ht : t.size ≤ 1000000) (hL : Lay w) :
    Calls Tryz.prog 29 #[.string s, .string t] w fun e w' => e = .returned (.tuple #[.string (op2B (· - ·) s t), .int .i64 (op2E (· - ·) s t)]) ∧ Below w.heap.size w w' := by
  have H := hid (q_both w s t 59 (outB (vQ s - vQ t)) (outE (vQ s - vQ t)) hs ht hL (enters_of Tryz.func59 (by kernel_rfl) rfl)
    (fun W v u h1 h2 hv hu hLW => q_Sub1 W v u _ _ hv hu (sml_vQ h1) (sml_vQ h2) hLW))
  rw [t2B, t2E (f := (· - ·))] at H
  obtain ⟨B, hB⟩ : ∃ B, op2B (· - ·) s t = B := ⟨_, rfl⟩
  obtain ⟨E, hE⟩ : ∃ E, op2E (· - ·) s t = E := ⟨_, rfl⟩
  rw [hB, hE] at H ⊢
  clear hB hE hs ht hL
  go_enter Tryz.func29, Tryz.ntmps29
  go_wp2_with fail
  refine H.out.mono ?_; rintro e w1 ⟨rfl, hb1⟩
  have y1 := hid hb1; clear hb1
  go_wp2_with fail
  go_ret2
  exact ⟨rfl, y1.out⟩
end Go.Proofs.YtgphopkifomffaaGreatDoor
namespace Go.Proofs.YtgphopkifomffaaGreatDoor
open Go.RowKit Go.Shelf
open Go.Lib (decDigits nDigits)
set_option linter.unusedVariables false
set_option linter.unusedSimpArgs false
set_option maxRecDepth 100000 in
set_option maxHeartbeats 1000000 in
theorem r3_Share (w : World) (v : Value) (m n : Nat) (hv : IsN .i64 w v m) (hn : n ≤ 256) (hm : m ≤ 2 ^ 256) :
    Calls Tryz.prog 40 #[v, .int .i64 (n : Nat)] w fun e w' => e = .returned (.string (shB m (2 ^ n))) ∧ Below w.heap.size w w' := by
  have RT := fun V => hid (r3_Two V n (by omega))
  obtain ⟨t, ht⟩ : ∃ t, 2 ^ n = t := ⟨_, rfl⟩
  rw [ht] at RT ⊢
  have tle : t ≤ 2 ^ 256 := by rw [← ht]; exact Nat.pow_le_pow_right (by omega) (by omega)
  have tpos : t ≠ 0 := by rw [← ht]; exact Nat.ne_of_gt (Nat.pow_pos (by omega))
  have big : ∀ x, x ≤ 2 ^ 256 → nDigits x ≤ 78 := fun x hx => nDigits_le (by omega) (Nat.lt_of_le_of_lt hx (by decide))
  have dm := big m hm; have dt := big t tle
  have LM : Hid ((limbs m).length ≤ 1000000) := num_limbs (by omega)
  have LT : Hid ((limbs t).length ≤ 1000000) := num_limbs (by omega)
  have RM := fun V => hid (r2_Make_num V m t (by omega) (by omega) tpos)
  have V0 := hid hv
  clear hv ht tle tpos big hm dm dt
  go_enter Tryz.func40, Tryz.ntmps40
  go_wp2_with fail
  refine (r1_Write _ _ _ V0.out LM.out).mono ?_; rintro e w1 ⟨rfl, hb1⟩
  have B1 := hid hb1; clear hb1
  go_wp2_with fail
  refine (RT _).out.mono ?_; rintro e w2 ⟨⟨v2, rfl, hv2⟩, hb2⟩
  have V2 := hid hv2; have B2 := hid (bnext B1.out hb2); clear hv2 hb2
  go_wp2_with fail
  refine (r1_Write _ _ _ V2.out LT.out).mono ?_; rintro e w3 ⟨rfl, hb3⟩
  have B3 := hid (bnext B2.out hb3); clear hb3
  go_wp2_with fail
  refine (RM _).out.mono ?_; rintro e w4 ⟨rfl, hb4⟩
  have B4 := hid (bnext B3.out hb4); clear hb4
  go_wp2_with fail
  go_ret
  exact ⟨rfl, B4.out⟩
end Go.Proofs.YtgphopkifomffaaGreatDoor
namespace Go.Proofs.YtgphopkifomffaaGreatDoor
open Go.RowKit Go.Shelf
open Go.Lib (decDigits nDigits)
set_option linter.unusedVariables false
theorem tb_list (l : List UInt8) : (tb l).data.toList = l := by simp [tb]
theorem less_lt {x z : ByteArray} (h : ¬ z.data.toList ≤ x.data.toList) : Op.bytesLess x.toList z.toList = true := by
  rw [bytesLess_eq, Lib.toList_data, Lib.toList_data]
  exact decide_eq_true (List.not_le.1 h)
end Go.Proofs.YtgphopkifomffaaGreatDoor
namespace Go.Proofs.YtgphopkifomffaaGreatDoor
open Go.RowKit
open Go.Lib (decDigits nDigits)
set_option linter.unusedVariables false
structure Few (ws : List Nat) : Prop where
  len : ws.length ≤ 64
  dig : ∀ x ∈ ws, nDigits x ≤ 300
  pos : 0 < ws.sum
section
variable {ws : List Nat} {m : Nat} (h : Few ws) (hm : m ≤ 256)
include h
include hm
omit hm
end
end Go.Proofs.YtgphopkifomffaaGreatDoor
namespace Go.Proofs.YtgphopkifomffaaGreatDoor
open Go.RowKit Go.Shelf
open Go.Lib (decDigits nDigits)
set_option linter.unusedVariables false
theorem shB_ne {a b : Nat} (hb : b ≠ 0) (h1 : nDigits a ≤ 4000) (h2 : nDigits b ≤ 4000) (ha : a ≠ 0) : shB a b ≠ ⟨#[48]⟩ := fun e => by
  rw [← shB_zero b, shB_tx hb h1 h2, shB_tx hb (by rw [nDigits_zero]; omega) h2] at e
  have e' := congrArg vQ e
  rw [vQ_txQ, vQ_txQ] at e'
  have h3 := (Rat.mkRat_eq_iff hb hb).1 e'
  have h4 : ((a * b : Nat) : Int) = 0 := by rw [Int.natCast_mul, h3]; simp
  have hp : 0 < a * b := Nat.mul_pos (by omega) (by omega)
  omega
end Go.Proofs.YtgphopkifomffaaGreatDoor
namespace Go.Proofs.YtgphopkifomffaaGreatDoor
open Go.RowKit
open Go.Lib (decDigits nDigits)
set_option linter.unusedVariables false
section
variable {g : Int → Nat} {n : Nat} (hg : ∀ v : Int, v < 0 → g v = 0) (hz : zS n g ≤ 2 ^ n)
include hg hz
omit hg hz in
omit hg hz in
end
theorem dy_eq_zero {x m : Nat} (hx : x ≤ 2 ^ m) (h : m ≤ 1000) : dyB x m = ⟨#[48]⟩ ↔ x = 0 :=
  ⟨fun e => Classical.byContradiction fun h0 => shB_ne (pow_ne m) (dy_nd hx h) (dy_nd (Nat.le_refl _) h) h0 e, fun e => e ▸ dy_zero m⟩
end Go.Proofs.YtgphopkifomffaaGreatDoor
namespace Go.Proofs.YtgphopkifomffaaGreatDoor
open Go.RowKit
open Go.Lib (decDigits nDigits)
set_option linter.unusedVariables false
theorem zs_pow {g : Int → Nat} {n : Nat} (hz : zS n g ≤ 2 ^ n) (i : Nat) : zS n g ^ i ≤ 2 ^ (n * i) := by
  rw [Nat.pow_mul]
  exact Nat.pow_le_pow_left hz i
def sV (f : Int → Nat) (l : List Int) : Nat := (l.map f).sum
theorem sV_take {f : Int → Nat} {l : List Int} {i : Nat} {v : Int} (h : l[i]? = some v) : sV f (l.take (i + 1)) = sV f (l.take i) + f v := by
  unfold sV
  rw [List.take_add_one, h, Option.toList_some, List.map_append, List.sum_append]; simp
theorem sV_le {f : Int → Nat} {l : List Int} (i : Nat) : sV f (l.take i) ≤ sV f l := by
  have e : sV f l = sV f (l.take i) + sV f (l.drop i) := by
    conv => lhs; rw [← List.take_append_drop i l]
    unfold sV
    rw [List.map_append, List.sum_append]
  omega
theorem sV_perm {f : Int → Nat} {l m : List Int} (h : l.Perm m) : sV f l = sV f m := (h.map f).sum_nat
def Runs (g : Int → Nat) (n : Nat) (l : List Int) : Prop := ∀ f : Int → Nat, (∀ v, g v = 0 → f v = 0) → sV f l = zS n f
section
variable {gA gC : Int → Nat} {n : Nat} {kA kC : List Int} (hA : zS n gA ≤ 2 ^ n) (hC : zS n gC ≤ 2 ^ n) (rA : Runs gA n kA) (rC : Runs gC n kC)
end
end Go.Proofs.YtgphopkifomffaaGreatDoor
namespace Go.Proofs.YtgphopkifomffaaGreatDoor
open Go.RowKit
open Go.Lib (decDigits nDigits)
set_option linter.unusedVariables false
theorem dyB_size {x m : Nat} (hx : x ≤ 2 ^ m) (h : m ≤ 1000) : (dyB x m).size ≤ 10000 := by unfold dyB shB; exact outB_size _
end Go.Proofs.YtgphopkifomffaaGreatDoor
namespace Go.Proofs.YtgphopkifomffaaGreatDoor
open Go.RowKit
open Go.Lib (decDigits nDigits)
set_option linter.unusedVariables false
def chV (g : Int → Nat) (n j : Nat) : List Int := ((List.range j).map fun (i : Nat) => (i : Int) - n).filter fun v => decide (g v ≠ 0)
theorem chV_succ (g : Int → Nat) (n j : Nat) : chV g n (j + 1) = chV g n j ++ if g ((j : Int) - n) = 0 then [] else [(j : Int) - n] := by
  unfold chV
  rw [List.range_succ, List.map_append, List.filter_append, List.map_singleton]
  by_cases h : g ((j : Int) - n) = 0
  · simp [h]
  · simp [h]
theorem chV_mem {g : Int → Nat} {n j : Nat} {v : Int} : v ∈ chV g n j ↔ ∃ i : Nat, i < j ∧ v = (i : Int) - n ∧ g v ≠ 0 := by
  unfold chV
  rw [List.mem_filter, List.mem_map, decide_eq_true_iff]
  constructor
  · rintro ⟨⟨i, hi, rfl⟩, h⟩
    exact ⟨i, List.mem_range.1 hi, rfl, h⟩
  · rintro ⟨i, hi, rfl, h⟩
    exact ⟨⟨i, List.mem_range.2 hi, rfl⟩, h⟩
theorem chV_length (g : Int → Nat) (n j : Nat) : (chV g n j).length ≤ j := by
  unfold chV
  refine Nat.le_trans (List.length_filter_le _ _) ?_
  simp
def smV (f : Int → Nat) (l : List Int) : Nat := (l.map f).sum
theorem smV_snoc (f : Int → Nat) (l : List Int) (v : Int) : smV f (l ++ [v]) = smV f l + f v := by simp [smV]
theorem smV_chV {f g : Int → Nat} (hf : ∀ v, g v = 0 → f v = 0) (n : Nat) : ∀ j, smV f (chV g n j) = sumN (fun i => f ((i : Int) - n)) j
  | 0 => rfl
  | j + 1 => by
    rw [chV_succ, sumN, ← smV_chV hf n j]
    split
    · rename_i h
      rw [List.append_nil, hf _ h, Nat.add_zero]
    · rw [smV_snoc]
theorem smV_all {f g : Int → Nat} (hf : ∀ v, g v = 0 → f v = 0) (n : Nat) : smV f (chV g n (2 * n + 1)) = zS n f := smV_chV hf n _
def chA (g : Int → Nat) (n : Nat) : List Int := chV g n (2 * n + 1)
theorem chA_g {g : Int → Nat} {n : Nat} {v : Int} (h : v ∈ chA g n) : -(n : Int) ≤ v ∧ v ≤ n ∧ g v ≠ 0 := by
  obtain ⟨i, h1, rfl, h2⟩ := chV_mem.1 h
  exact ⟨by omega, by omega, h2⟩
theorem chA_length (g : Int → Nat) (n : Nat) : (chA g n).length ≤ 2 * n + 1 := chV_length g n _
end Go.Proofs.YtgphopkifomffaaGreatDoor
namespace Go.Proofs
open Go.Shelf
def Tryz.sortMW_ren : Go.Shelf.Ren := ⟨fun | 14 => 65 | 20 => 113 | 21 => 114 | 22 => 115 | 23 => 116 | 24 => 117 | 25 => 118 | 26 => 119 | 27 => 120 | 46 => 174 | 47 => 175 | 48 => 176 | 49 => 177 | 50 => 178 | 15 => 66 | 57 => 220 | 28 => 121 | 29 => 122 | n => n, fun | 24 => 40 | 22 => 25 | 3 => 3 | 25 => 71 | 4 => 4 | 0 => 0 | 46 => 146 | 45 => 145 | 50 => 150 | 66 => 204 | 39 => 107 | 55 => 120 | 70 => 208 | 76 => 250 | 77 => 251 | 53 => 153 | 5 => 5 | 9 => 9 | n => n, fun | n => n⟩
theorem Tryz.sortMW : Go.Proofs.SlLaysF0.n14 Tryz.prog Tryz.sortMW_ren := {
  mixed := by kernel_rfl
  f14 := ⟨Tryz.f65.name, by decide, Tryz.func65.trans (congrArg some (by kernel_rfl))⟩
  f15 := Tryz.func66.trans (congrArg some (by kernel_rfl))
  f20 := ⟨Tryz.f113.name, by decide, Tryz.func113.trans (congrArg some (by kernel_rfl))⟩
  f21 := ⟨Tryz.f114.name, by decide, Tryz.func114.trans (congrArg some (by kernel_rfl))⟩
  f22 := ⟨Tryz.f115.name, by decide, Tryz.func115.trans (congrArg some (by kernel_rfl))⟩
  f23 := ⟨Tryz.f116.name, by decide, Tryz.func116.trans (congrArg some (by kernel_rfl))⟩
  f24 := ⟨Tryz.f117.name, by decide, Tryz.func117.trans (congrArg some (by kernel_rfl))⟩
  f25 := ⟨Tryz.f118.name, by decide, Tryz.func118.trans (congrArg some (by kernel_rfl))⟩
  f26 := ⟨Tryz.f119.name, by decide, Tryz.func119.trans (congrArg some (by kernel_rfl))⟩
  f27 := ⟨Tryz.f120.name, by decide, Tryz.func120.trans (congrArg some (by kernel_rfl))⟩
  f28 := Tryz.func121.trans (congrArg some (by kernel_rfl))
  f29 := Tryz.func122.trans (congrArg some (by kernel_rfl))
  f46 := ⟨Tryz.f174.name, by decide, Tryz.func174.trans (congrArg some (by kernel_rfl))⟩
  f47 := Tryz.func175.trans (congrArg some (by kernel_rfl))
  f48 := Tryz.func176.trans (congrArg some (by kernel_rfl))
  f49 := ⟨Tryz.f177.name, by decide, Tryz.func177.trans (congrArg some (by kernel_rfl))⟩
  f50 := ⟨Tryz.f178.name, by decide, Tryz.func178.trans (congrArg some (by kernel_rfl))⟩
  f57 := ⟨Tryz.f220.name, by decide, Tryz.func220.trans (congrArg some (by kernel_rfl))⟩
  t0 := Tryz.underlying0
  a0 := Tryz.isAgg0
  z0 := Tryz.sizeOf0
  v0 := Tryz.zeroValue0
  t3 := Tryz.underlying3
  a3 := Tryz.isAgg3
  z3 := Tryz.sizeOf3
  v3 := Tryz.zeroValue3
  t4 := Tryz.underlying4
  a4 := Tryz.isAgg4
  z4 := Tryz.sizeOf4
  v4 := Tryz.zeroValue4
  t5 := Tryz.underlying5
  a5 := Tryz.isAgg5
  z5 := Tryz.sizeOf5
  v5 := Tryz.zeroValue5
  t9 := Tryz.underlying9
  a9 := Tryz.isAgg9
  z9 := Tryz.sizeOf9
  v9 := Tryz.zeroValue9
  t22 := Tryz.underlying25
  a22 := Tryz.isAgg25
  z22 := Tryz.sizeOf25
  v22 := Tryz.zeroValue25
  t25 := Tryz.underlying71
  a25 := Tryz.isAgg71
  z25 := Tryz.sizeOf71
  v25 := Tryz.zeroValue71
  t39 := Tryz.underlying107
  a39 := Tryz.isAgg107
  z39 := Tryz.sizeOf107
  v39 := Tryz.zeroValue107
  t45 := Tryz.underlying145
  a45 := Tryz.isAgg145
  z45 := Tryz.sizeOf145
  v45 := Tryz.zeroValue145
  t46 := Tryz.underlying146
  a46 := Tryz.isAgg146
  z46 := Tryz.sizeOf146
  v46 := Tryz.zeroValue146
  t50 := Tryz.underlying150
  a50 := Tryz.isAgg150
  z50 := Tryz.sizeOf150
  v50 := Tryz.zeroValue150
  t53 := Tryz.underlying153
  a53 := Tryz.isAgg153
  z53 := Tryz.sizeOf153
  v53 := Tryz.zeroValue153
  t55 := Tryz.underlying120
  a55 := Tryz.isAgg120
  z55 := Tryz.sizeOf120
  v55 := Tryz.zeroValue120
  t66 := Tryz.underlying204
  a66 := Tryz.isAgg204
  z66 := Tryz.sizeOf204
  v66 := Tryz.zeroValue204
  t70 := Tryz.underlying208
  a70 := Tryz.isAgg208
  z70 := Tryz.sizeOf208
  v70 := Tryz.zeroValue208
  t76 := Tryz.underlying250
  a76 := Tryz.isAgg250
  z76 := Tryz.sizeOf250
  v76 := Tryz.zeroValue250
  t77 := Tryz.underlying251
  a77 := Tryz.isAgg251
  z77 := Tryz.sizeOf251
  v77 := Tryz.zeroValue251 }
def Tryz.lenW_ren : Go.Shelf.Ren := ⟨fun | 125 => 66 | 128 => 121 | 129 => 122 | n => n, fun | 46 => 107 | 3 => 3 | 51 => 153 | 53 => 120 | 4 => 4 | 5 => 5 | 9 => 9 | n => n, fun | n => n⟩
theorem Tryz.lenW : Go.Proofs.Lays.n125 Tryz.prog Tryz.lenW_ren := {
  mixed := by kernel_rfl
  f125 := Tryz.func66.trans (congrArg some (by kernel_rfl))
  f128 := Tryz.func121.trans (congrArg some (by kernel_rfl))
  f129 := Tryz.func122.trans (congrArg some (by kernel_rfl))
  t3 := Tryz.underlying3
  a3 := Tryz.isAgg3
  z3 := Tryz.sizeOf3
  v3 := Tryz.zeroValue3
  t4 := Tryz.underlying4
  a4 := Tryz.isAgg4
  z4 := Tryz.sizeOf4
  v4 := Tryz.zeroValue4
  t5 := Tryz.underlying5
  a5 := Tryz.isAgg5
  z5 := Tryz.sizeOf5
  v5 := Tryz.zeroValue5
  t9 := Tryz.underlying9
  a9 := Tryz.isAgg9
  z9 := Tryz.sizeOf9
  v9 := Tryz.zeroValue9
  t46 := Tryz.underlying107
  a46 := Tryz.isAgg107
  z46 := Tryz.sizeOf107
  v46 := Tryz.zeroValue107
  t51 := Tryz.underlying153
  a51 := Tryz.isAgg153
  z51 := Tryz.sizeOf153
  v51 := Tryz.zeroValue153
  t53 := Tryz.underlying120
  a53 := Tryz.isAgg120
  z53 := Tryz.sizeOf120
  v53 := Tryz.zeroValue120 }
end Go.Proofs
namespace Go.Proofs.YtgphopkifomffaaGreatDoor
open Go.RowKit Go.Sort Go.Shelf Go.Lib
set_option linter.unusedVariables false
set_option linter.unusedSimpArgs false
def cmpK (p q : ByteArray × ByteArray) : Int := if keyL p < keyL q then -1 else if keyL q < keyL p then 1 else 0
theorem cmpK_neg (p q : ByteArray × ByteArray) : cmpK p q < 0 ↔ keyL p < keyL q := by
  unfold cmpK
  split
  · rename_i h; simp [h]
  · rename_i h
    split <;> simp [h]
def encM (p : ByteArray × ByteArray) : List Value := [.string p.1, .string p.2]
theorem swoM : SWO (ltOf cmpK) where
  irrefl x := by
    simp only [ltOf, decide_eq_false_iff_not, cmpK_neg]
    exact List.lt_irrefl _
  trans x y z h1 h2 := by
    simp only [ltOf, decide_eq_true_eq, cmpK_neg] at *
    exact List.lt_trans h1 h2
  ntrans x y z h1 h2 := by
    simp only [ltOf, decide_eq_false_iff_not, cmpK_neg, List.not_lt] at *
    exact List.le_trans h2 h1
theorem massC_at {L : List (ByteArray × ByteArray)} (i : Nat) : (massC L)[i]? = (L[i / 2]?).map (fun p => if i % 2 = 0 then Value.string p.1 else Value.string p.2) := by
  cases h : L[i / 2]? with
  | none =>
    rw [List.getElem?_eq_none_iff] at h
    rw [Option.map_none, List.getElem?_eq_none_iff, massC_length]
    omega
  | some p =>
    obtain ⟨h1, h2⟩ := massC_get h
    rw [Option.map_some]
    by_cases hm : i % 2 = 0
    · rw [if_pos hm, show i = 2 * (i / 2) by omega]; exact h1
    · rw [if_neg hm, show i = 2 * (i / 2) + 1 by omega]; exact h2
theorem flatK_mass (d : Array (ByteArray × ByteArray)) : (flatK encM 2 d).toList = massC d.toList := by
  apply List.ext_getElem?
  intro i
  rw [massC_at]
  by_cases hi : i < d.size * 2
  · have e1 := get_flatK encM 2 d i (by omega)
    rw [getElem!_pos _ _ (by simp; omega)] at e1
    have hi2 : i / 2 < d.size := by omega
    rw [Array.getElem?_toList, Array.getElem?_eq_getElem (by simp; omega), e1, Array.getElem?_toList, Array.getElem?_eq_getElem hi2, Option.map_some, getElem!_pos d (i / 2) hi2]
    by_cases hm : i % 2 = 0
    · rw [if_pos hm, hm]; rfl
    · rw [if_neg hm, show i % 2 = 1 by omega]; rfl
  · rw [List.getElem?_eq_none (by simp; omega), Array.getElem?_toList, Array.getElem?_eq_none (by omega)]; rfl
theorem heap_sortedK {w : World} {g n : Nat} {os : Array Obj} {cur : Array Value} {e : TypeId} {fr : Nat × Nat} (d : Array Value) (hb : w.heap[g]? = some (.cells cur e fr)) :
    (grow (putRow id (Sort.ahead w n) g 0 d) os).heap[g]? = some (.cells (putCells id 0 d cur) e fr) := by
  have hg : g < w.heap.size := (Array.getElem?_eq_some_iff.1 hb).1
  rw [Go.Sort.heap_grow_old _ _ (by simpa using hg)]
  simp [putRow, mapBlock, Sort.ahead, Array.getElem?_modify, hb, onCells]
theorem below_sortedK {w : World} {g n base : Nat} {os : Array Obj} (d : Array Value) (hb : base ≤ g) (hw : base ≤ w.heap.size) : Below base w (grow (putRow id (Sort.ahead w n) g 0 d) os) := by
  refine ⟨rfl, rfl, rfl, by simp, fun k hk => ?_⟩
  rw [Go.Sort.heap_grow_old _ _ (by simp; omega)]
  have : g ≠ k := by omega
  simp [putRow, mapBlock, Sort.ahead, Array.getElem?_modify, this]
theorem take_putCellsK (cur F : Array Value) (h : F.size ≤ cur.size) : (putCells id 0 F cur).toList.take F.size = F.toList := by
  apply List.ext_getElem?
  intro j
  by_cases hj : j < F.size
  · rw [List.getElem?_take_of_lt hj, Array.getElem?_toList]
    simp [putCells, hj, show j < cur.size by omega]
  · rw [List.getElem?_take_eq_none (by omega), List.getElem?_eq_none (by simp; omega)]
theorem permIn_all {d d' : Array (ByteArray × ByteArray)} (h : PermIn 0 d.size d d') : d'.size = d.size ∧ d'.toList.Perm d.toList := by
  obtain ⟨h1, _, h3⟩ := h
  refine ⟨h1, ?_⟩
  have e1 : d'.extract 0 d.size = d' := by rw [← h1]; simp
  have e2 : d.extract 0 d.size = d := by simp
  rwa [e1, e2] at h3
theorem sortedIn_all {d' : Array (ByteArray × ByteArray)} (h : SortedIn (ltOf cmpK) 0 d'.size d') : d'.toList.Pairwise (fun p q => leB (keyL p) (keyL q) = true) := by
  rw [List.pairwise_iff_getElem]
  intro i j hi hj hij
  have := h i j (Nat.zero_le _) hij (by simpa using hj)
  simp only [ltOf, decide_eq_false_iff_not, cmpK_neg, List.not_lt] at this
  rw [getElem!_pos _ _ (by simpa using hi), getElem!_pos _ _ (by simpa using hj)] at this
  simp only [leB, decide_eq_true_eq]
  simpa using this
theorem sorted_is {L M : List (ByteArray × ByteArray)} (hp : L.Perm M) (hs : L.Pairwise (fun p q => leB (keyL p) (keyL q) = true)) (nd : (M.map keyL).Nodup) : L = sortM M := by
  have nd2 : (L.map keyL).Nodup := ((hp.map keyL).nodup_iff).2 nd
  rw [← sortM_same nd2 nd (fun p => hp.mem_iff)]
  exact (List.mergeSort_of_pairwise hs).symm
set_option maxHeartbeats 2000000 in
theorem s_SortM (F : Nat) (g cap base : Nat) (d : Array (ByteArray × ByteArray)) (w : World) (cur : Array Value) (hb : base ≤ g) (hg : w.heap[g]? = some (.cells cur 40 (0, 0))) (h1 : d.size ≤ cap) (h2 : cap ≤ maxLen) (h3 : cur.size = cap * 2) (h4 : cur.toList.take (d.size * 2) = massC d.toList) (hs : d.size ≤ 1000) (hnd : (d.toList.map keyL).Nodup)
    (eg : ∀ args w, (callFunc F args).run Tryz.prog w = .ok (.enter F args) w) (hF : ∀ (x y : ByteArray × ByteArray) (W : World), Calls Tryz.prog F #[.agg #[.string x.1, .string x.2], .agg #[.string y.1, .string y.2]] W fun e w' => e = .returned (.int .i64 (cmpK x y)) ∧ ∃ n os', w' = grow (W.drewN n) os') :
    Calls Tryz.prog 32 #[.slice (some ⟨g, 0, none⟩) d.size cap, .func (.func F) #[] #[]] w fun e w' => e = .returned (.tuple #[]) ∧ w'.ownsRow base 40 2 (.slice (some ⟨g, 0, none⟩) d.size cap) d.size (massC (sortM d.toList)) ∧ Below base w w' := by
  have hblk : g < w.heap.size := (Array.getElem?_eq_some_iff.1 hg).1
  have hH : HoldsK encM 2 w g 0 d := by
    intro j hj
    have hj' : j < d.size * 2 := by simpa using hj
    refine ⟨?_, by simp [World.frozen?, hg]⟩
    have e : (cur.toList.take (d.size * 2))[j]? = (flatK encM 2 d).toList[j]? := by rw [h4, flatK_mass]
    rw [List.getElem?_take_of_lt hj'] at e
    simp only [World.cell?, hg, Nat.zero_add]
    simp only [Option.isSome_none, Bool.false_eq_true, if_false]
    rw [← Array.getElem?_toList, e, Array.getElem?_toList, Array.getElem?_eq_getElem hj, getElem!_pos (flatK encM 2 d) j hj]
    rfl
  have hcmp : CmpLays Tryz.prog F #[] encM 2 cmpK g 0 d.size w := fun _ _ _ _ x y => hF x y _
  have hd : ∀ x : ByteArray × ByteArray, (encM x).length = 2 := fun _ => rfl
  have h1c : ∀ x : ByteArray × ByteArray, ∀ v ∈ encM x, v.oneCell' = true := fun x v hv => by simp [encM] at hv; rcases hv with rfl | rfl <;> rfl
  have hlim : Lib.bitLen d.size < 4611686018427387904 := Nat.lt_of_le_of_lt (Lib.bitLen_le d.size 62 (by omega) (by omega)) (by omega)
  have hpd := AnyQ.pdqsortCmpFunc_all Tryz.sortMW 2 Tryz.isAgg40 Tryz.sizeOf40 encM cmpK F #[] swoM g 0 cap d w eg hcmp ⟨hd, h1c, hH, hblk⟩ (d.size + 1) 0 d.size (Lib.bitLen d.size) d w (by omega) rfl (SWK.start hH) (Nat.zero_le _) (Nat.le_refl _) (by omega) hlim (Or.inl rfl)
  change Calls Tryz.prog 65 _ _ _ at hpd
  have hbl : Calls Tryz.prog 66 #[.int .u64 (d.size : Int)] w fun e w' => e = .returned (.int .i64 (Lib.bitLen d.size : Nat)) ∧ w' = w := by
    have h := Any.bits_Len Tryz.lenW (d.size : Int) w (by omega) (by omega)
    rwa [Int.toNat_natCast] at h
  have wr : IntKind.u64.wrap (d.size : Int) = d.size := by simp [IntKind.wrap, IntKind.bits, IntKind.signed]; omega
  have hz := pdq_sorts (ltOf cmpK) swoM d 0 d.size (Lib.bitLen d.size) true true (Nat.zero_le _) (Nat.le_refl _) (Or.inl rfl)
  have P := permIn_all hz.1
  have hz2 := hz.2
  generalize pdq (ltOf cmpK) d 0 d.size (Lib.bitLen d.size) true true = d' at *
  have S := sortedIn_all (P.1 ▸ hz2)
  have hd' : d'.toList = sortM d.toList := sorted_is P.2 S hnd
  clear hH hcmp hz hz2 hF
  have h2h := hid h2; clear h2
  have h4h := hid h4; clear h4
  have HND := hid hnd; clear hnd
  go_enter Tryz.func32, Tryz.ntmps32
  go_wp2_with fail
  refine hbl.mono ?_; rintro e w' ⟨rfl, rfl⟩
  go_wp2_with fail
  refine hpd.mono ?_; rintro e w' ⟨rfl, n, os, rfl⟩
  go_wp2_with fail
  go_end0
  refine ⟨rfl, ⟨?_, .inr ⟨g, cap, _, rfl, hb, heap_sortedK _ hg, h1, h2h.out, by simp [putCells, h3], ?_⟩⟩, below_sortedK _ hb (by omega)⟩
  · rw [massC_length, ← hd']; simp [P.1]
  · rw [← hd', ← flatK_mass]
    have := take_putCellsK cur (flatK encM 2 d') (by rw [size_flatK, P.1, h3]; omega)
    rwa [size_flatK, P.1] at this
end Go.Proofs.YtgphopkifomffaaGreatDoor
namespace Go.Proofs.YtgphopkifomffaaGreatDoor
open Go.RowKit Go.Sort Go.Shelf Go.Maps
open Go.Lib (decDigits nDigits)
set_option linter.unusedVariables false
set_option linter.unusedSimpArgs false
theorem s_ItoaZ (w : World) (v : Int) (h1 : -100000 ≤ v) (h2 : v ≤ 100000) (hL : Lay w) :
    Calls Tryz.prog 31 #[.int .i64 v] w fun e w' => e = .returned (.string (zB v)) ∧ Below w.heap.size w w' := by
  refine (Tryz.strconv_Itoa v (by omega) (by omega) w hL.tab).mono ?_
  rintro e w' ⟨rfl, k, os, rfl⟩
  exact ⟨rfl, below_grow w k os⟩
theorem sameKey_int (v x : Int) : (Lit.int .i64 v).sameKey (.int .i64 x) = decide (v = x) := by
  by_cases h : v = x
  · subst h
    rw [WideAt.sameKey_self (show WideAt.IsKeyLit (.int .i64 v) from trivial)]; simp
  · rw [Maps.sameKey_ne (fun e => h (by injection e))]; simp [h]
theorem less_bytes (x z : ByteArray) : Op.bytesLess x.toList z.toList = decide (x.data.toList < z.data.toList) := by
  rw [bytesLess_eq, Lib.toList_data, Lib.toList_data]
set_option maxRecDepth 100000 in
theorem s_isNaN (w : World) (x : ByteArray) : Calls Tryz.prog 67 #[.string x] w fun e w' => e = .returned (.bool false) ∧ w = w' := by
  have q1 : (x.toList != x.toList) = false := by simp
  have q2 : (x.toList == x.toList) = true := by simp
  go_enter Tryz.func67, Tryz.ntmps67
  go_wp2_with fail
  go_ret
  exact ⟨rfl, rfl⟩
set_option maxRecDepth 100000 in
set_option maxHeartbeats 1000000 in
theorem s_Compare (w : World) (x z : ByteArray) : Calls Tryz.prog 34 #[.string x, .string z] w fun e w' => e = .returned (.int .i64 (if x.data.toList < z.data.toList then -1 else if z.data.toList < x.data.toList then 1 else 0)) ∧ w = w' := by
  have h1 := less_bytes x z
  have h2 := less_bytes z x
  have N1 := fun V => hid (s_isNaN V x)
  have N2 := fun V => hid (s_isNaN V z)
  by_cases c1 : x.data.toList < z.data.toList
  · rw [if_pos c1]
    rw [decide_eq_true c1] at h1
    clear h2 c1
    go_enter Tryz.func34, Tryz.ntmps34
    go_wp2_with fail
    refine (N1 _).out.mono ?_; rintro e w1 ⟨rfl, rfl⟩
    go_wp2_with fail
    refine (N2 _).out.mono ?_; rintro e w1 ⟨rfl, rfl⟩
    go_wp2_with fail
    go_ret
    exact ⟨rfl, rfl⟩
  · rw [if_neg c1]
    rw [decide_eq_false c1] at h1
    by_cases c2 : z.data.toList < x.data.toList
    · rw [if_pos c2]
      rw [decide_eq_true c2] at h2
      have h3 : (x.toList == z.toList) = false := by
        rw [beq_eq_false_iff_ne]
        intro e
        rw [Lib.toList_data, Lib.toList_data] at e
        rw [e] at c2
        exact List.lt_irrefl _ c2
      clear c1 c2
      go_enter Tryz.func34, Tryz.ntmps34
      go_wp2_with fail
      refine (N1 _).out.mono ?_; rintro e w1 ⟨rfl, rfl⟩
      go_wp2_with fail
      refine (N2 _).out.mono ?_; rintro e w1 ⟨rfl, rfl⟩
      go_wp2_with fail
      go_ret
      exact ⟨rfl, rfl⟩
    · rw [if_neg c2]
      rw [decide_eq_false c2] at h2
      have h3 : (x.toList == z.toList) = true := by
        rw [beq_iff_eq, Lib.toList_data, Lib.toList_data]
        exact List.le_antisymm (List.not_lt.1 c2) (List.not_lt.1 c1)
      clear c1 c2
      go_enter Tryz.func34, Tryz.ntmps34
      go_wp2_with fail
      refine (N1 _).out.mono ?_; rintro e w1 ⟨rfl, rfl⟩
      go_wp2_with fail
      refine (N2 _).out.mono ?_; rintro e w1 ⟨rfl, rfl⟩
      go_wp2_with fail
      go_ret
      exact ⟨rfl, rfl⟩
set_option maxRecDepth 100000 in
set_option maxHeartbeats 1000000 in
theorem g_order (p q : ByteArray × ByteArray) (w : World) : Calls Tryz.prog 100 #[.agg #[.string p.1, .string p.2], .agg #[.string q.1, .string q.2]] w fun e w' => e = .returned (.int .i64 (cmpK p q)) ∧ ∃ n os', w' = grow (w.drewN n) os' := by
  obtain ⟨p1, p2⟩ := p
  obtain ⟨q1, q2⟩ := q
  dsimp only
  have HC := fun V => hid (s_Compare V p1 q1)
  unfold cmpK keyL
  dsimp only
  obtain ⟨r, hr⟩ : ∃ r : Int, (if p1.data.toList < q1.data.toList then (-1 : Int) else if q1.data.toList < p1.data.toList then 1 else 0) = r := ⟨_, rfl⟩
  rw [hr] at HC ⊢
  clear hr
  go_enter Tryz.func100, Tryz.ntmps100
  go_wp2_with fail
  refine (HC _).out.mono ?_; rintro e w1 ⟨rfl, rfl⟩
  go_wp2_with fail
  go_ret
  exact ⟨rfl, 0, _, by rw [alloc_eq_grow, alloc_eq_grow, grow_grow]; rfl⟩
end Go.Proofs.YtgphopkifomffaaGreatDoor
namespace Go.Proofs.YtgphopkifomffaaGreatDoor
open Go.RowKit Go.Maps
open Go.Lib (decDigits nDigits)
set_option linter.unusedVariables false
set_option linter.unusedSimpArgs false
structure ReadsI {H : Type} (D : DataW H) (c : Int → Nat) : Prop where
  map : IsMap D
  has : ∀ v : Int, Maps.has D (.int .i64 v) = decide (c v ≠ 0)
  look : ∀ v : Int, c v ≠ 0 → ∀ z, D.atKey (.int .i64 v) z = .lit (.string (numB (c v)).data.toList)
theorem ReadsI.nil {H : Type} : ReadsI (.map [] : DataW H) (fun _ => 0) :=
  ⟨isMap_empty, fun v => by simp [Maps.has_eq], fun v h => absurd rfl h⟩
theorem ReadsI.put {H : Type} {D : DataW H} {c : Int → Nat} (h : ReadsI D c) (v : Int) {x : Nat} (hx : 0 < x) :
    ReadsI (D.put (.int .i64 v) (.lit (.string (numB (c v + x)).data.toList))) (addM c v x) := by
  refine ⟨h.map.put _ _, fun y => ?_, fun y hy z => ?_⟩
  · by_cases e : y = v
    · subst e
      rw [has_put_same h.map (show WideAt.IsKeyLit (.int .i64 y) from trivial)]
      unfold addM
      rw [if_pos rfl]
      simp; omega
    · rw [has_put_other (fun e' => e (by injection e')), h.has]
      unfold addM
      rw [if_neg e]
  · by_cases e : y = v
    · subst e
      rw [atKey_put_same h.map (show WideAt.IsKeyLit (.int .i64 y) from trivial)]
      unfold addM
      rw [if_pos rfl]
    · unfold addM at hy ⊢
      rw [if_neg e] at hy ⊢
      rw [atKey_put_other (fun e' => e (by injection e'))]
      exact h.look y hy z
def cellB (x : Nat) : ByteArray := if x = 0 then ⟨#[]⟩ else numB x
theorem look_i {H : Type} {w : World} {B nn : Nat} {D : DataW H} {c : Int → Nat} (hown : w.ownsMap Tryz.prog 3 (plainElem Tryz.prog 22) B nn D) (hR : ReadsI D c) {v : Int} (hw : (Lit.int .i64 v).wf = true) :
    (Instr.lookup 137 (.map (some B)) (.int .i64 v) false).run Tryz.prog w = .ok (.string (cellB (c v))) w := by
  obtain ⟨x, ps, h1, h2⟩ := hown.lookup (int_keyed Tryz.underlying3) Tryz.underlying137 (zero_num w) (plainElem_string Tryz.underlying22 (s := ⟨#[]⟩) (Nat.zero_le _)) (keyOf_int_mk Tryz.underlying3 hw)
  rw [h1]
  unfold cellB
  by_cases h0 : c v = 0
  · rw [if_pos h0]
    rw [atKey_of_not_has (by rw [hR.has, h0]; rfl)] at h2
    obtain ⟨s, rfl, h3, -⟩ := plainElem_string_inv Tryz.underlying22 h2
    simp only [Prod.mk.injEq, DataW.lit.injEq, Lit.string.injEq] at h3
    have e : s = (⟨#[]⟩ : ByteArray) := ba_ext (by simpa using h3.1.symm)
    rw [e]
  · rw [if_neg h0]
    rw [hR.look v h0] at h2
    obtain ⟨s, rfl, h3, -⟩ := plainElem_string_inv Tryz.underlying22 h2
    simp only [Prod.mk.injEq, DataW.lit.injEq, Lit.string.injEq] at h3
    rw [ba_ext h3.1]
end Go.Proofs.YtgphopkifomffaaGreatDoor
namespace Go.Proofs.YtgphopkifomffaaGreatDoor
open Go.RowKit Go.Shelf
open Go.Lib (decDigits nDigits)
set_option linter.unusedVariables false
set_option linter.unusedSimpArgs false
def rowV (n g : Nat) : Value := .slice (some ⟨g, 0, none⟩) (n + 1) (n + 1)
structure TabR (W : World) (gt n : Nat) (f : Nat → List Nat) : Prop where
  len : ∀ i, i ≤ n → (f i).length = n + 1
  ex : ∃ g c, n + 1 ≤ c ∧ c ≤ 9223372036854775807 ∧ W.cell? ⟨gt, 0, none⟩ = some (.slice (some ⟨g, 0, none⟩) (n + 1) c) ∧ W.cell? ⟨gt, 1, none⟩ = some (.string ⟨#[48]⟩) ∧ ∀ i, i ≤ n → ∃ gr, W.cell? ⟨g, i, none⟩ = some (rowV n gr) ∧ NRowT W gr (f i)
theorem TabR.call {W W' : World} {gt n : Nat} {f : Nat → List Nat} (h : TabR W gt n f) (hb : Below W.heap.size W W') : TabR W' gt n f := by
  obtain ⟨h0, g, c, h1, h2, h3, h4, h5⟩ := h
  refine ⟨h0, g, c, h1, h2, (hb.cell (cell_lt h3)).trans h3, (hb.cell (cell_lt h4)).trans h4, fun i hi => ?_⟩
  obtain ⟨gr, k1, k2⟩ := h5 i hi
  exact ⟨gr, (hb.cell (cell_lt k1)).trans k1, k2.call hb⟩
set_option maxRecDepth 100000 in
set_option maxHeartbeats 1000000 in
theorem tb_at (w : World) (gt n i k : Nat) (f : Nat → List Nat) (h : TabR w gt n f) (hi : i ≤ n) (hk : k ≤ n) (hn : n ≤ 100000) :
    Calls Tryz.prog 146 #[.pointer (some ⟨gt, 0, none⟩), .int .i64 (i : Nat), .int .i64 (k : Nat)] w fun e w' => e = .returned (.string (numB ((f i).getD k 0))) ∧ w = w' := by
  obtain ⟨h0, g, c, h1, h2, r0, r1, h5⟩ := h
  obtain ⟨gr, r2, k2⟩ := h5 i hi
  have r3 := k2.cell (i := k) (by rw [h0 i hi]; omega)
  unfold rowV at r2
  obtain ⟨X, hX⟩ : ∃ s, numB ((f i).getD k 0) = s := ⟨_, rfl⟩
  rw [hX] at r3 ⊢
  have b1 : (0 : Int) ≤ (i : Int) := by omega
  have b2 : (i : Int) < ((n + 1 : Nat) : Int) := by omega
  have b3 : (0 : Int) ≤ (k : Int) := by omega
  have b4 : (k : Int) < ((n + 1 : Nat) : Int) := by omega
  obtain ⟨m, hm⟩ : ∃ m, n + 1 = m := ⟨_, rfl⟩
  rw [hm] at r0 r2 b2 b4 h1
  have t1 : decide ((i : Int) < 0) = false := by simp
  have t2 : decide (m ≤ i) = false := by simp; omega
  have t3 : decide ((k : Int) < 0) = false := by simp
  have t4 : decide (m ≤ k) = false := by simp; omega
  clear h0 h5 k2 hX hi hk hn hm
  go_enter Tryz.func146, Tryz.ntmps146
  go_wp2_with fail
  go_ret
  exact ⟨rfl, rfl⟩
structure TabO (W : World) (H gt : Nat) (rv : Value) (gs : List Nat) (n r : Nat) (f : Nat → List Nat) : Prop where
  blk : Blk W gt #[rv, .string ⟨#[48]⟩] 177
  own : W.ownsRow H 168 1 rv gs.length (gs.map (rowV n))
  rows : ∀ i g, i < r → gs[i]? = some g → NRowT W g (f i)
  ne : rv.ownBlock ≠ some gt
  sep : ∀ i g, i < r → gs[i]? = some g → rv.ownBlock ≠ some g
  gne : ∀ i g, i < r → gs[i]? = some g → g ≠ gt
theorem NRowT.lt' {w : World} {g : Nat} {l : List Nat} (h : NRowT w g l) : g < w.heap.size := Blk.lt h
theorem owns_set {W : World} {H : Nat} {e : TypeId} {rv : Value} {n : Nat} {xs : List Value} (h : W.ownsRow H e 1 rv n xs) {a : Addr} (h2 : rv.ownBlock ≠ some a.block) (v : Value) : (W.setCell a v).ownsRow H e 1 rv n xs := by
  refine ⟨h.1, ?_⟩
  rcases h.2 with h0 | ⟨g, cap, cur, rfl, k1, k2, k3⟩
  · exact .inl h0
  · refine .inr ⟨g, cap, cur, rfl, k1, ?_, k3⟩
    have hg : g ≠ a.block := fun e => h2 (by rw [← e]; rfl)
    rw [← k2]
    unfold World.setCell
    simp [Array.getElem?_modify, Ne.symm hg]
theorem TabO.call {W W' : World} {H gt : Nat} {rv : Value} {gs : List Nat} {n r : Nat} {f : Nat → List Nat} (h : TabO W H gt rv gs n r f) (hb : Below W.heap.size W W') : TabO W' H gt rv gs n r f :=
  ⟨h.blk.call hb, owns_call h.own hb, fun i g hi hg => (h.rows i g hi hg).call hb, h.ne, h.sep, h.gne⟩
theorem TabO.other {W : World} {H gt : Nat} {rv : Value} {gs : List Nat} {n r : Nat} {f : Nat → List Nat} (h : TabO W H gt rv gs n r f) {a : Addr} (h1 : a.block ≠ gt) (h2 : rv.ownBlock ≠ some a.block) (h3 : ∀ i g, i < r → gs[i]? = some g → a.block ≠ g) (v : Value) : TabO (W.setCell a v) H gt rv gs n r f := by
  exact ⟨h.blk.other h1 v, owns_set h.own h2 v, fun i g hi hg => (h.rows i g hi hg).other (h3 i g hi hg) v, h.ne, h.sep, h.gne⟩
structure KpR (gt : Nat) (rb : Option Nat) (W W' : World) : Prop where
  os : W'.os = W.os
  tape : W'.tape = W.tape
  output : W'.output = W.output
  size : W.heap.size ≤ W'.heap.size
  block : ∀ i, i < W.heap.size → i ≠ gt → some i ≠ rb → W'.heap[i]? = W.heap[i]?
theorem TabO.drew {W : World} {H gt : Nat} {rv : Value} {gs : List Nat} {n r : Nat} {f : Nat → List Nat} (h : TabO W H gt rv gs n r f) : TabO W.drew H gt rv gs n r f := ⟨h.blk, h.own, h.rows, h.ne, h.sep, h.gne⟩
theorem KpR.drew {gt : Nat} {rb : Option Nat} {W W' : World} (h : KpR gt rb W W') : KpR gt rb W W'.drew := ⟨h.os, h.tape, h.output, h.size, h.block⟩
theorem info_nums : (Tryz.prog.info? 168).map (fun i => (i.zero, i.size, i.bytes)) = some (some (.slice none 0 0), 1, 24) := by kernel_rfl
set_option maxRecDepth 100000 in
set_option maxHeartbeats 4000000 in
theorem tb_row (w : World) (H gt : Nat) (rv : Value) (gs : List Nat) (n r : Nat) (f : Nat → List Nat) (h : TabO w H gt rv gs n r f) (hr : r ≤ gs.length) (hgs : gs.length ≤ 1000) (hn : n ≤ 1000) (hH : H ≤ w.heap.size) :
    Calls Tryz.prog 202 #[.pointer (some ⟨gt, 0, none⟩), .int .i64 ((n + 1 : Nat) : Int)] w fun e w' => ∃ g rv', e = .returned (rowV n g) ∧ w.heap.size ≤ g ∧ NRowT w' g (List.replicate (n + 1) 0) ∧ TabO w' H gt rv' (gs ++ [g]) n r f ∧ rv'.ownBlock ≠ some g ∧ (rv'.ownBlock = rv.ownBlock ∨ ∃ b, rv'.ownBlock = some b ∧ w.heap.size ≤ b) ∧ KpR gt rv.ownBlock w w' := by
  obtain ⟨i0, hi, hz0, hz1, hz2⟩ := info_parts info_nums
  have HR := fun V g h => hid (s_Repeat V g (n + 1) ⟨#[48]⟩ (by omega) (by omega) h)
  have hgt : gt < w.heap.size := h.blk.lt
  have r0 := h.blk.cell 0
  have r1 := h.blk.cell 1
  simp at r0 r1
  have T0 := hid h
  have HGT := hid hgt; have HHS := hid hH; have HGS := hid hgs; have HRL := hid hr
  obtain ⟨ar, cr, hrv⟩ := owns_ex h.own
  obtain ⟨L, hL⟩ : ∃ L, gs.length = L := ⟨_, rfl⟩
  have HLL := hid hL
  obtain ⟨m, hm⟩ : ∃ m, n + 1 = m := ⟨_, rfl⟩
  have HM := hid hm
  have KK : Hid (∀ W, Below w.heap.size w W → W.cell? ⟨gt, 0, none⟩ = some rv ∧ W.cell? ⟨gt, 1, none⟩ = some (.string ⟨#[48]⟩)) := fun W hW => ⟨(hW.cell (cell_lt r0)).trans r0, (hW.cell (cell_lt r1)).trans r1⟩
  rw [hm] at HR ⊢
  have HRV := hid hrv
  clear h hgt hH hgs hr hL hm hrv hn
  go_enter Tryz.func202, Tryz.ntmps202
  go_wp2_with fail
  refine held_lasts 14 3 [0, 1, 2, 3, 4, 5, 6, 7, 8, 10] 4 (fun W' => W'.cell? ⟨gt, 0, none⟩ = some rv ∧ W'.cell? ⟨gt, 1, none⟩ = some (.string ⟨#[48]⟩)) (by kernel_rfl) rfl (by kernel_rfl) (by kernel_rfl) (by kernel_rfl) (by kernel_rfl) (KK.out _ (Below.refl _ _).drew) ?_
  iterate 10
    refine ⟨_, rfl, ?_⟩
    apply Exists.intro
    refine ⟨.inl ⟨by rfl, ?_⟩, ?_⟩
    · (intro W' hW'; obtain ⟨q1, q2⟩ := hW'; go_simp; try (with_reducible rfl))
    (dsimp only [Act.put]; try simp only [List.setIfInBounds_toArray, List.set_cons_zero, List.set_cons_succ])
  refine held_one (i := 9) (by kernel_rfl) (by rfl) (by rfl) ?_
  go_wp2_with fail
  have A1 := hid (show Below w.heap.size w (w.alloc (.cells #[.string ⟨#[48]⟩] 22)).drew from ((Below.refl _ _).alloc (Nat.le_refl _) _).drew)
  have C1 : (w.alloc (.cells #[.string ⟨#[48]⟩] 22)).drew.cell? ⟨w.heap.size, 0, none⟩ = some (.string ⟨#[48]⟩) := (Blk.new w #[.string ⟨#[48]⟩] 22).cell 0
  refine ⟨KK.out _ A1.out, ?_⟩
  refine held_one (i := 11) (by kernel_rfl) (by rfl) (by rfl) ?_
  go_wp2_with fail
  refine (HR _ _ C1).out.mono ?_; rintro e w2 ⟨rfl, hg, hb⟩
  obtain ⟨g, hgg⟩ : ∃ g, (w.alloc (.cells #[.string ⟨#[48]⟩] 22)).drew.heap.size = g := ⟨_, rfl⟩
  have B2 := hid (bnext A1.out hb)
  rw [hgg] at hg ⊢
  have HG : Hid (w.heap.size < g) := by rw [← hgg]; show _ < _; simp
  have R2 := hid (NRowT.zeros hg)
  have L2 := hid (show g < w2.heap.size from hg.lt)
  clear hg hb hgg C1
  go_wp2_with fail
  refine ⟨KK.out _ B2.out, ?_⟩
  refine held_one (i := 12) (by kernel_rfl) (by rfl) (by rfl) ?_
  go_wp2_with fail
  have A3 := hid (show Below w.heap.size w (w2.alloc (.cells #[.slice (some ⟨g, 0, none⟩) m m] 168)) from B2.out.alloc B2.out.size _)
  refine ⟨KK.out _ A3.out, ?_⟩
  refine held_one (i := 13) (by kernel_rfl) (by rfl) (by rfl) ?_
  have O3 := hid (((T0.out.call B2.out).own).alloc (.cells #[.slice (some ⟨g, 0, none⟩) m m] 168))
  refine wpList_append_own_at _ rfl _ _ 175 rfl H 168 i0 (.slice none 0 0) 1 24 Tryz.underlying175 hi hz0 hz1 hz2 rfl (by decide) rv gs.length (gs.map (rowV n)) rfl O3.out ⟨w2.heap.size, 0, none⟩ 1 1 [.slice (some ⟨g, 0, none⟩) m m] rfl rfl (cell_one_new w2 (.slice (some ⟨g, 0, none⟩) m m) 168) (by simp [Value.oneCell']) (by have := HGS.out; unfold maxLen; omega) (by have := HGS.out; omega) (by have := HHS.out; have := B2.out.size; simp; omega) ?_
  intro rv' w3 hown3 hgrow3 _ hat3
  have hat4 : rv'.ownBlock = rv.ownBlock ∨ rv'.ownBlock = some (w2.heap.size + 1) := by simpa using hat3
  have OW := hid hown3; have GR := hid hgrow3; have AT := hid hat4
  clear hown3 hgrow3 hat3 hat4
  have c30 : w3.cell? ⟨gt, 0, none⟩ = some rv := by
    have := GR.out.cell (KK.out _ A3.out).1 (fun e => T0.out.ne e.symm)
    exact this
  have c31 : w3.cell? ⟨gt, 1, none⟩ = some (.string ⟨#[48]⟩) := GR.out.cell (KK.out _ A3.out).2 (fun e => T0.out.ne e.symm)
  have X3 : Hid (Blk w3 gt #[rv, .string ⟨#[48]⟩] 177) := ((T0.out.blk.call B2.out).alloc _).grown GR.out (fun e => T0.out.ne e)
  go_wp2_with fail
  refine ⟨⟨c30, c31⟩, ?_⟩
  refine wpAnyH_done (by kernel_rfl) ?_ _
  simp only [Only, ThenL, List.drop_succ_cons, List.drop_zero]
  have f3 := X3.out.free 0
  have NE3 : Hid (rv'.ownBlock ≠ some gt) := by
    rcases AT.out with e | e
    · show rv'.ownBlock ≠ some gt
      rw [e]; exact T0.out.ne
    · show rv'.ownBlock ≠ some gt
      rw [e]; intro hh; have := Option.some.inj hh; have := HGT.out; have := B2.out.size; omega
  have NEG : Hid (rv'.ownBlock ≠ some g) := by
    rcases AT.out with e | e
    · show rv'.ownBlock ≠ some g
      rw [e]; intro hh; have := (T0.out.own.lt g hh).2; have := HG.out; omega
    · show rv'.ownBlock ≠ some g
      rw [e]; intro hh; have := Option.some.inj hh; have := L2.out; omega
  have AT2 : Hid (rv'.ownBlock = rv.ownBlock ∨ ∃ b, rv'.ownBlock = some b ∧ w.heap.size ≤ b) := AT.out.imp id fun e => ⟨_, e, Nat.le_succ_of_le B2.out.size⟩
  have KP : Hid (KpR gt rv.ownBlock w w3) := ⟨GR.out.os.trans A3.out.os, GR.out.tape.trans A3.out.tape, GR.out.output.trans A3.out.output, Nat.le_trans A3.out.size GR.out.size, fun i hi _ h2 => (GR.out.block i (by have := A3.out.size; omega) h2).trans (A3.out.block i hi)⟩
  have N3 : Hid (NRowT w3 g (List.replicate m 0)) := Blk.grown (Blk.alloc R2.out _) GR.out (fun e => by have := (T0.out.own.lt g e).2; have := HG.out; omega)
  have RO : Hid (∀ i g', i < r → gs[i]? = some g' → NRowT w3 g' (f i)) := fun i g' hi2 hg' => Blk.grown (Blk.alloc ((T0.out.rows i g' hi2 hg').call B2.out) _) GR.out (T0.out.sep i g' hi2 hg')
  have GSR : Hid (∀ i g', i < r → gs[i]? = some g' → g' ≠ gt) := fun i g' hi2 hg' => T0.out.gne i g' hi2 hg'
  obtain ⟨gr, cap, rfl⟩ := ownsRow_succ OW.out
  have HGR : Hid (gr ≠ gt) := fun e => NE3.out (by rw [e]; rfl)
  go_wp2_with fail
  try simp only [Only]
  obtain ⟨w4, hw4⟩ : ∃ W, w3.setCell ⟨gt, 0, none⟩ (.slice (some ⟨gr, 0, none⟩) (gs.length + 1) cap) = W := ⟨_, rfl⟩
  have T4 : Hid (TabO w4 H gt (.slice (some ⟨gr, 0, none⟩) (gs.length + 1) cap) (gs ++ [g]) n r f) := by
    refine ⟨?_, ?_, fun i g' hi2 hg' => ?_, NE3.out, ?_, ?_⟩
    · rw [← hw4]; exact X3.out.set 0 _
    · rw [← hw4, List.length_append, List.map_append]
      have hl : (gs.map (rowV n) ++ [Value.slice (some ⟨g, 0, none⟩) m m]) = gs.map (rowV n) ++ [g].map (rowV n) := by rw [← HM.out]; rfl
      rw [← hl]
      exact owns_set OW.out (fun e => HGR.out (by simpa [Value.ownBlock] using e)) _
    · have hlt : i < gs.length := Nat.lt_of_lt_of_le hi2 HRL.out
      rw [List.getElem?_append_left hlt] at hg'
      rw [← hw4]
      exact (RO.out i g' hi2 hg').other (GSR.out i g' hi2 hg').symm _
    · intro i g' hi2 hg'
      have hlt : i < gs.length := Nat.lt_of_lt_of_le hi2 HRL.out
      rw [List.getElem?_append_left hlt] at hg'
      rcases AT.out with e | e
      · rw [e]; exact T0.out.sep i g' hi2 hg'
      · rw [e]; intro hh; have := Option.some.inj hh; have := (T0.out.rows i g' hi2 hg').lt'; have := B2.out.size; omega
    · intro i g' hi2 hg'
      have hlt : i < gs.length := Nat.lt_of_lt_of_le hi2 HRL.out
      rw [List.getElem?_append_left hlt] at hg'
      exact T0.out.gne i g' hi2 hg'
  have N4 : Hid (NRowT w4 g (List.replicate m 0)) := by rw [← hw4]; exact N3.out.other (by have := HG.out; have := HGT.out; show gt ≠ g; omega) _
  have K4 : Hid (KpR gt rv.ownBlock w w4) := by
    rw [← hw4]
    refine ⟨KP.out.os, KP.out.tape, KP.out.output, by simpa [World.setCell] using KP.out.size, fun i hi h1 h2 => ?_⟩
    rw [← KP.out.block i hi h1 h2]
    unfold World.setCell
    simp [Array.getElem?_modify, Ne.symm h1]
  rw [hw4]
  have s0 := T4.out.blk.cell 0
  simp at s0
  have s1 : w4.cell? ⟨gr, gs.length, none⟩ = some (.slice (some ⟨g, 0, none⟩) m m) := by
    obtain ⟨g', o', e1, -, e2⟩ := (Row.of_owns T4.out.own).at (i := gs.length) (x := rowV n g) (by rw [List.map_append, List.getElem?_append_right (by simp)]; simp)
    simp only [Option.some.injEq, Addr.mk.injEq] at e1
    obtain ⟨rfl, rfl, -⟩ := e1
    rw [Nat.zero_add] at e2
    rw [e2, rowV, HM.out]
  have wl : IntKind.i64.wrap (((gs.length + 1 : Nat) : Int) - 1) = (gs.length : Int) := by rw [IntWalk.i64_in _ ⟨by omega, by have := HGS.out; omega⟩]; omega
  have wl2 : IntKind.i64.wrap ((gs.length : Int) + 1 - 1) = (gs.length : Int) := by rw [IntWalk.i64_in _ ⟨by omega, by have := HGS.out; omega⟩]; omega
  have b1 : (0 : Int) ≤ (gs.length : Int) := by omega
  have b2 : (gs.length : Int) < ((gs.length + 1 : Nat) : Int) := by omega
  have wl3 : IntKind.i64.wrap (gs.length : Int) = (gs.length : Int) := by rw [IntWalk.i64_in _ ⟨by omega, by have := HGS.out; omega⟩]
  have b3 : (gs.length : Int) < (gs.length : Int) + 1 := by omega
  clear hw4 c30 c31 f3
  refine held_plain [0, 1, 2, 3, 4, 5, 6, 7, 8, 9, 10, 11, 12] 0 (fun W' => W'.cell? ⟨gt, 0, none⟩ = some (.slice (some ⟨gr, 0, none⟩) (gs.length + 1) cap) ∧ W'.cell? ⟨gr, gs.length, none⟩ = some (.slice (some ⟨g, 0, none⟩) m m)) (by kernel_rfl) (by kernel_rfl) (by kernel_rfl) (by kernel_rfl) ⟨s0, s1⟩ ?_
  iterate 13
    refine ⟨_, rfl, ?_⟩
    apply Exists.intro
    refine ⟨.inl ⟨by rfl, ?_⟩, ?_⟩
    · (intro W' hW'; obtain ⟨q3, q4⟩ := hW'; go_simp; try (with_reducible rfl))
    (dsimp only [Act.put]; try simp only [List.setIfInBounds_toArray, List.set_cons_zero, List.set_cons_succ])
  refine wpAnyH_done (by kernel_rfl) ?_ _
  simp only [Only]
  go_wp2_with fail
  go_ret
  refine ⟨g, _, by rw [rowV, HM.out]; rfl, Nat.le_of_lt HG.out, N4.out, T4.out.drew, NEG.out, AT2.out, K4.out.drew⟩
end Go.Proofs.YtgphopkifomffaaGreatDoor
namespace Go.Proofs.YtgphopkifomffaaGreatDoor
open Go.RowKit Go.Shelf
open Go.Lib (decDigits nDigits)
set_option linter.unusedVariables false
set_option linter.unusedSimpArgs false
structure EnS (W : World) (gt gO gN gD g1 g2 n r : Nat) (rv : Value) (gs : List Nat) (O nx dn : List Nat) (os zs : Nat → Bool) (f : Nat → List Nat) : Prop where
  tab : TabO W (gt + 1) gt rv (gs ++ [gD]) n r f
  o : NRowT W gO O
  nx : NRowT W gN nx
  dn : NRowT W gD dn
  b1 : Blk W g1 (allB os n).toArray 4
  b2 : Blk W g2 (allB zs n).toArray 4
structure EnD (gt gO gN gD g1 g2 r : Nat) (rv : Value) (gs : List Nat) : Prop where
  tN : gN ≠ gt
  tD : gD ≠ gt
  rN : rv.ownBlock ≠ some gN
  rD : rv.ownBlock ≠ some gD
  ND : gN ≠ gD
  oN : gO ≠ gN
  oD : gO ≠ gD
  n1 : gN ≠ g1
  n2 : gN ≠ g2
  d1 : gD ≠ g1
  d2 : gD ≠ g2
  sN : ∀ i g, i < r → (gs ++ [gD])[i]? = some g → gN ≠ g
  sD : ∀ i g, i < r → (gs ++ [gD])[i]? = some g → gD ≠ g
theorem EnS.call {W W' : World} {gt gO gN gD g1 g2 n r : Nat} {rv : Value} {gs : List Nat} {O nx dn : List Nat} {os zs : Nat → Bool} {f : Nat → List Nat} (h : EnS W gt gO gN gD g1 g2 n r rv gs O nx dn os zs f) (hb : Below W.heap.size W W') : EnS W' gt gO gN gD g1 g2 n r rv gs O nx dn os zs f :=
  ⟨h.tab.call hb, h.o.call hb, h.nx.call hb, h.dn.call hb, h.b1.call hb, h.b2.call hb⟩
theorem EnS.setN {W : World} {gt gO gN gD g1 g2 n r : Nat} {rv : Value} {gs : List Nat} {O nx dn : List Nat} {os zs : Nat → Bool} {f : Nat → List Nat} (h : EnS W gt gO gN gD g1 g2 n r rv gs O nx dn os zs f) (d : EnD gt gO gN gD g1 g2 r rv gs) (i x : Nat) : EnS (W.setCell ⟨gN, i, none⟩ (.string (numB x))) gt gO gN gD g1 g2 n r rv gs O (nx.set i x) dn os zs f :=
  ⟨h.tab.other d.tN d.rN d.sN _, h.o.other d.oN.symm _, h.nx.set i x, h.dn.other d.ND _, h.b1.other d.n1 _, h.b2.other d.n2 _⟩
theorem EnS.setD {W : World} {gt gO gN gD g1 g2 n r : Nat} {rv : Value} {gs : List Nat} {O nx dn : List Nat} {os zs : Nat → Bool} {f : Nat → List Nat} (h : EnS W gt gO gN gD g1 g2 n r rv gs O nx dn os zs f) (d : EnD gt gO gN gD g1 g2 r rv gs) (i x : Nat) : EnS (W.setCell ⟨gD, i, none⟩ (.string (numB x))) gt gO gN gD g1 g2 n r rv gs O nx (dn.set i x) os zs f :=
  ⟨h.tab.other d.tD d.rD d.sD _, h.o.other d.oD.symm _, h.nx.other d.ND.symm _, h.dn.set i x, h.b1.other d.d1 _, h.b2.other d.d2 _⟩
theorem pass_bd {c : Nat → Bool} {N D n r : Nat} {F : Nat → Nat} (hn : n ≤ 32) (hr : r ≤ 32) (hF : aOut c (opnL N D n r) n (n + 1) = fnL F n) (hB : ∀ s, s ≤ n → F s ≤ 2 ^ (6 * (r + 1))) {i j k : Nat} (hi : i ≤ n) (hij : i + j ≤ n + 1) (hk : k ≤ n) : (aIn c ((opnL N D n r).getD i 0) i j (aOut c (opnL N D n r) n i)).getD k 0 ≤ 2 ^ 200 := by
  refine Nat.le_trans (aIn_le hi hij hk) ?_
  rw [hF, fnL_get hk]
  exact Nat.le_trans (hB k hk) (Nat.pow_le_pow_right (by omega) (by omega))
def EndsOut (w : World) (n N D : Nat) (e : Ending) (w' : World) : Prop := ∃ gt, e = .returned (.pointer (some ⟨gt, 0, none⟩)) ∧ w.heap.size ≤ gt ∧ TabR w' gt n (ednL N D n)
theorem blk_keep {w w' : World} {g : Nat} {cs : Array Value} {t : TypeId} (h : Blk w g cs t) (e : w'.heap[g]? = w.heap[g]?) : Blk w' g cs t := e.trans h
theorem tabR_of {W : World} {H gt : Nat} {rv : Value} {gs : List Nat} {n : Nat} {f : Nat → List Nat} (h : TabO W H gt rv gs n (n + 1) f) (hl : gs.length = n + 1) (hf : ∀ i, (f i).length = n + 1) (hn : n ≤ 1000) : TabR W gt n f := by
  obtain ⟨g, cap, rfl⟩ : ∃ g c, rv = .slice (some ⟨g, 0, none⟩) (n + 1) c := by
    have := h.own
    rw [hl] at this
    exact ownsRow_succ this
  obtain ⟨a, c, e, h1, h2, h3⟩ := (Row.of_owns h.own).ex
  simp only [Value.slice.injEq] at e
  obtain ⟨rfl, -, rfl⟩ := e
  rw [List.length_map, hl] at h1
  have c0 := h.blk.cell 0
  have c1 := h.blk.cell 1
  simp at c0 c1
  refine ⟨fun i _ => hf i, g, cap, h1, by unfold maxLen at h2; omega, c0, c1, fun i hi => ?_⟩
  obtain ⟨gr, hgr⟩ : ∃ g, gs[i]? = some g := ⟨_, List.getElem?_eq_getElem (by omega)⟩
  obtain ⟨g', o', e1, -, e2⟩ := h3 i (rowV n gr) (by rw [List.getElem?_map, hgr]; rfl)
  simp only [Option.some.injEq, Addr.mk.injEq] at e1
  obtain ⟨rfl, rfl, -⟩ := e1
  rw [Nat.zero_add] at e2
  exact ⟨gr, e2, h.rows i gr (by omega) hgr⟩
set_option maxRecDepth 100000 in
set_option maxHeartbeats 8000000 in
theorem g_ends (w : World) (a : ByteArray) (n N D : Nat) (ha : a.size ≤ 100000) (he : gPE a = 0) (hn : n ≤ 32) (hN : bN (cW a) = N) (hD : bN (qD a) = D) (hND : N < D) (hL : Lay w) :
    Calls Tryz.prog 145 #[.string a, .int .i64 n] w fun e w' => EndsOut w n N D e w' ∧ Below w.heap.size w w' := by
  have HS := hid (g_sides w a n N D ha he (by omega) hN hD hND hL)
  have HR := fun V g h => hid (s_Repeat V g (n + 1) ⟨#[48]⟩ (by omega) (by omega) h)
  have HTR := fun V gt rv gs r f (h : TabO V (gt + 1) gt rv gs n r f) (h1 : r ≤ gs.length) (h2 : gs.length ≤ 1000) (h3 : gt + 1 ≤ V.heap.size) => hid (tb_row V (gt + 1) gt rv gs n r f h h1 h2 (by omega) h3)
  have HL := hid hL; have HLL := hid hL.lt; have HN := hid hn
  have wn : IntKind.i64.wrap ((n : Int) + 1) = ((n + 1 : Nat) : Int) := by rw [IntWalk.i64_in _ ⟨by omega, by omega⟩]; omega
  have NX : Hid (∀ r, aOut (oneJ N D) (opnL N D n r) n (n + 1) = opnL N D n (r + 1)) := fun r => opnL_succ N D n r
  have DN : Hid (∀ r, aOut (zeroJ N D) (opnL N D n r) n (n + 1) = ednL N D n r) := fun r => ednL_is N D n r
  have BN : Hid (∀ r i j k, r ≤ n → i ≤ n → i + j ≤ n + 1 → k ≤ n → (aIn (oneJ N D) ((opnL N D n r).getD i 0) i j (aOut (oneJ N D) (opnL N D n r) n i)).getD k 0 ≤ 2 ^ 200) := fun r i j k h1 h2 h3 h4 => pass_bd (F := opn N D (r + 1)) hn (by omega) (opnL_succ N D n r) (fun s hs => opn_bd hn (r + 1) s hs) h2 h3 h4
  have BD : Hid (∀ r i j k, r ≤ n → i ≤ n → i + j ≤ n + 1 → k ≤ n → (aIn (zeroJ N D) ((opnL N D n r).getD i 0) i j (aOut (zeroJ N D) (opnL N D n r) n i)).getD k 0 ≤ 2 ^ 200) := fun r i j k h1 h2 h3 h4 => pass_bd (F := edn N D r) hn (by omega) (ednL_is N D n r) (fun s hs => edn_bd hn r s hs) h2 h3 h4
  have BO : Hid (∀ r i, r ≤ n → i ≤ n → (opnL N D n r).getD i 0 ≤ 2 ^ 200) := fun r i h1 h2 => by
    unfold opnL
    rw [fnL_get h2]
    exact Nat.le_trans (opn_bd hn r i h2) (Nat.pow_le_pow_right (by omega) (by omega))
  have OZ : Hid ((List.replicate (n + 1) 0).set 0 1 = opnL N D n 0) := opnL_zero N D n
  have OL : Hid (∀ r, (opnL N D n r).length = n + 1) := fun r => fnL_length _ _
  obtain ⟨OF, hOF⟩ : ∃ F, opnL N D n = F := ⟨_, rfl⟩
  obtain ⟨EF, hEF⟩ : ∃ F, ednL N D n = F := ⟨_, rfl⟩
  obtain ⟨os, hos⟩ : ∃ f, oneJ N D = f := ⟨_, rfl⟩
  obtain ⟨zs, hzs⟩ : ∃ f, zeroJ N D = f := ⟨_, rfl⟩
  rw [hOF] at NX DN BN BD BO OZ OL
  rw [hEF] at DN
  rw [hos] at NX BN
  rw [hzs] at DN BD
  have HOS := hid hos; have HZS := hid hzs; have HEF := hid hEF
  clear ha he hn hN hD hND hL hos hzs hOF hEF
  go_enter Tryz.func145, Tryz.ntmps145
  go_wp2_with fail
  refine HS.out.mono ?_; rintro e w1 ⟨⟨v1, v2, rfl, ⟨g1, g2, rfl, rfl, h3, h4, h5, hg1, hg2⟩⟩, hb1⟩
  rw [HOS.out] at hg1
  rw [HZS.out] at hg2
  have G1 := hid hg1; have G2 := hid hg2; have B1 := hid hb1; have N1 := hid (show g1 < w1.heap.size from Blk.lt hg1); have N2 := hid (show g2 < w1.heap.size from Blk.lt hg2)
  have z1 := hid hb1.size
  clear hg1 hg2 hb1 h3 h4 h5 HS
  go_wp2_with fail
  have T1 := hid (Blk.new w1 #[.slice none 0 0, .string ⟨#[48]⟩] 177)
  have A1 := hid ((Below.refl w1.heap.size w1).alloc (Nat.le_refl _) (.cells #[.slice none 0 0, .string ⟨#[48]⟩] 177))
  obtain ⟨wt, hwt⟩ : ∃ W, w1.alloc (.cells #[.slice none 0 0, .string ⟨#[48]⟩] 177) = W := ⟨_, rfl⟩
  have zt : Hid (wt.heap.size = w1.heap.size + 1) := by show wt.heap.size = _; rw [← hwt]; simp
  rw [hwt] at T1 A1 ⊢
  obtain ⟨gt, hgt⟩ : ∃ g, w1.heap.size = g := ⟨_, rfl⟩
  have HGT := hid hgt
  have T1' : Hid (Blk wt gt #[.slice none 0 0, .string ⟨#[48]⟩] 177) := by show Blk _ _ _ _; rw [← hgt]; exact T1.out
  try rw [hgt]
  clear T1 hwt hgt
  have C0 : (wt.alloc (.cells #[.string ⟨#[48]⟩] 22)).cell? ⟨gt + 1, 0, none⟩ = some (.string ⟨#[48]⟩) := by
    have := (Blk.new wt #[.string ⟨#[48]⟩] 22).cell 0
    rw [show wt.heap.size = gt + 1 by rw [zt.out, HGT.out]] at this
    exact this
  refine (HR _ _ C0).out.mono ?_; rintro e w2 ⟨rfl, hg7, hb2⟩
  clear C0
  obtain ⟨g0, h7⟩ : ∃ g, (wt.alloc (.cells #[.string ⟨#[48]⟩] 22)).heap.size = g := ⟨_, rfl⟩
  rw [h7] at hg7 ⊢
  have R7 := hid (NRowT.zeros hg7)
  have a1 := (Below.refl wt.heap.size wt).alloc (Nat.le_refl _) (.cells #[.string ⟨#[48]⟩] 22)
  have b2 := hid (bnext a1 hb2)
  have K7 := hid (show wt.heap.size < g0 by rw [← h7]; simp)
  have L7 := hid (show g0 < w2.heap.size from Blk.lt hg7)
  have Bt := hid (bnext B1.out A1.out)
  have B2 := hid (bnext Bt.out b2.out)
  have G12 := hid ((G1.out.call A1.out).call b2.out); have G22 := hid ((G2.out.call A1.out).call b2.out)
  have T2 := hid (T1'.out.call b2.out)
  clear hg7 hb2 a1 h7
  have k0 : w2.cell? ⟨g0, 0, none⟩ = some (.string ⟨#[48]⟩) := by
    refine (R7.out.cell (i := 0) (by simp)).trans ?_
    rw [← numB_zero]; simp [List.getD_eq_getElem?_getD]
  have k1 := R7.out.free 0
  have z0 : (0 : Int) < ((n + 1 : Nat) : Int) := by omega
  have z0' : (0 : Int) < (n : Int) + 1 := by omega
  go_wp2_with fail
  obtain ⟨W2, hW2⟩ : ∃ W, w2.setCell ⟨g0, 0, none⟩ (.string ⟨#[49]⟩) = W := ⟨_, rfl⟩
  have S0 : Hid (NRowT W2 g0 (OF 0)) := by
    show NRowT _ _ _
    rw [← hW2, ← numB_one, ← OZ.out]
    exact R7.out.set 0 1
  have S1 : Hid (Blk W2 g1 (allB os n).toArray 4) := by rw [← hW2]; exact G12.out.other (by have := K7.out; have := N1.out; have := zt.out; simp; omega) _
  have S2 : Hid (Blk W2 g2 (allB zs n).toArray 4) := by rw [← hW2]; exact G22.out.other (by have := K7.out; have := N2.out; have := zt.out; simp; omega) _
  have ST : Hid (Blk W2 gt #[.slice none 0 0, .string ⟨#[48]⟩] 177) := by rw [← hW2]; exact T2.out.other (by have := K7.out; have := HGT.out; have := zt.out; simp; omega) _
  have SB : Hid (Below w.heap.size w W2) := by rw [← hW2]; exact B2.out.setCell (by have := K7.out; have := z1.out; have := zt.out; simp; omega) _
  have TO : Hid (TabO W2 (gt + 1) gt (.slice none 0 0) [] n 0 EF) := ⟨ST.out, World.ownsRow_nil _ _ _ _, fun i g hi => absurd hi (by omega), by simp [Value.ownBlock], fun i g hi => absurd hi (by omega), fun i g hi => absurd hi (by omega)⟩
  have D1 : Hid (g1 < gt ∧ g2 < gt ∧ w.heap.size ≤ gt) := ⟨by have := N1.out; have := HGT.out; omega, by have := N2.out; have := HGT.out; omega, by have := z1.out; have := HGT.out; omega⟩
  have D2 : Hid (gt < g0) := by show gt < g0; have := K7.out; have := HGT.out; have := zt.out; omega
  rw [hW2]
  clear hW2 k0 k1 z0 z0' R7 G12 G22 T2 B2 b2 K7 L7 Bt T1' A1 G1 G2 B1 N1 N2 z1 zt HGT ST
  go_loopw [8, 29] (fun oo ii wr => ∃ r gO rv gs, oo = rowV n gO ∧ ii = .int .i64 (r : Nat) ∧ r ≤ n + 1 ∧ Hid (gs.length = r ∧ gt < gO ∧ rv.ownBlock ≠ some gO) ∧ Hid (TabO wr (gt + 1) gt rv gs n r EF) ∧ Hid (NRowT wr gO (OF r)) ∧ Hid (Blk wr g1 (allB os n).toArray 4) ∧ Hid (Blk wr g2 (allB zs n).toArray 4) ∧ Hid (Below w.heap.size w wr)) (fun oo ii wr => n + 1 - (intOf ii).toNat)
  case atStart => exact ⟨0, g0, _, [], rfl, rfl, Nat.zero_le _, ⟨rfl, D2.out, by simp [Value.ownBlock]⟩, TO, S0, S1, S2, SB⟩
  case round =>
    obtain ⟨r, gO, rv, gs, rfl, rfl, hr, hM, hT, hO, hg1, hg2, hB⟩ := hrel
    by_cases hlt : r < n + 1
    · have q0 : decide ((r : Int) < ((n + 1 : Nat) : Int)) = true := by simp; omega
      have dr : decide ((r : Int) < (n : Int) + 1) = true := by simp; omega
      have HR0 := hid hlt
      clear hr hlt
      unfold rowV
      go_wp2_with fail
      refine (HTR _ _ _ _ _ _ hT.out (by have := hM.out.1; omega) (by have := hM.out.1; have := HR0.out; have := HN.out; omega) hT.out.blk.lt).out.mono ?_; rintro e w3 ⟨gD, rv', rfl, hgD, hND, hT3, hne, hat, hK⟩
      simp only [rowV]
      have T3 := hid hT3; have ND3 := hid hND; have NE3 := hid hne
      have zD := hid hgD
      have LD := hid (show gD < w3.heap.size from hND.lt')
      have keep : ∀ b, b < wr.heap.size → b ≠ gt → rv.ownBlock ≠ some b → w3.heap[b]? = wr.heap[b]? := fun b h1 h2 h3 => hK.block b h1 h2 (fun e => h3 e.symm)
      have lO : gO < wr.heap.size := hO.out.lt'
      have l1 : g1 < wr.heap.size := Blk.lt hg1.out
      have l2 : g2 < wr.heap.size := Blk.lt hg2.out
      have rvge : ∀ b, rv.ownBlock = some b → gt + 1 ≤ b := fun b hb => (hT.out.own.lt b hb).1
      have O3 : Hid (NRowT w3 gO (OF r)) := blk_keep hO.out (keep gO lO (by have := hM.out.2.1; omega) hM.out.2.2)
      have G13 : Hid (Blk w3 g1 (allB os n).toArray 4) := blk_keep hg1.out (keep g1 l1 (by have := D1.out.1; omega) (fun e => by have := rvge _ e; have := D1.out.1; omega))
      have G23 : Hid (Blk w3 g2 (allB zs n).toArray 4) := blk_keep hg2.out (keep g2 l2 (by have := D1.out.2.1; omega) (fun e => by have := rvge _ e; have := D1.out.2.1; omega))
      have B3 : Hid (Below w.heap.size w w3) := ⟨hK.os.trans hB.out.os, hK.tape.trans hB.out.tape, hK.output.trans hB.out.output, Nat.le_trans hB.out.size hK.size, fun k hk => by
        have s0 := hB.out.size
        have d := D1.out.2.2
        exact (keep k (by omega) (by omega) (fun e => by have := rvge _ e; omega)).trans (hB.out.block k hk)⟩
      have M3 : Hid (gD ≠ gO ∧ gD ≠ g1 ∧ gD ≠ g2 ∧ gD ≠ gt ∧ rv'.ownBlock ≠ some gO) := by
        refine ⟨by omega, by omega, by omega, by have := hT.out.blk.lt; omega, ?_⟩
        rcases hat with e | ⟨b, e, hb⟩
        · rw [e]; exact hM.out.2.2
        · rw [e]; intro e'; have := Option.some.inj e'; omega
      have SG : Hid (∀ i g, i < r → (gs ++ [gD])[i]? = some g → gD ≠ g ∧ g < w3.heap.size) := fun i g hi hg => by
        have hl := hM.out.1
        have hg' := hg
        rw [List.getElem?_append_left (by omega)] at hg'
        have h1 := (hT.out.rows i g hi hg').lt'
        have h2 := hK.size
        exact ⟨by omega, by omega⟩
      clear hT3 hND hne hgD hat hK keep lO l1 l2 rvge
      go_wp2_with fail
      refine (HR _ _ ((Blk.new w3 _ _).cell 0)).out.mono ?_; rintro e w4 ⟨rfl, hg7, hb2⟩
      obtain ⟨gN, h7⟩ : ∃ g, (w3.alloc (.cells #[.string ⟨#[48]⟩] 22)).heap.size = g := ⟨_, rfl⟩
      rw [h7] at hg7 ⊢
      have R7 := hid (NRowT.zeros hg7)
      have a1 := (Below.refl w3.heap.size w3).alloc (Nat.le_refl _) (.cells #[.string ⟨#[48]⟩] 22)
      have b4 := hid (bnext a1 hb2)
      have K7 := hid (show w3.heap.size < gN by rw [← h7]; simp)
      have T4 := hid (T3.out.call b4.out)
      have B4 := hid (bnext B3.out b4.out)
      have QD := hid (show w.heap.size ≤ gD by have := zD.out; have := hB.out.size; omega)
      have QN := hid (show w.heap.size ≤ gN by have := K7.out; have := B3.out.size; omega)
      have l1 : g1 < w3.heap.size := Blk.lt G13.out
      have l2 : g2 < w3.heap.size := Blk.lt G23.out
      have lO : gO < w3.heap.size := O3.out.lt'
      have lT : gt < w3.heap.size := T3.out.blk.lt
      have lR : ∀ b, rv'.ownBlock = some b → b < w3.heap.size := fun b hb => (T3.out.own.lt b hb).2
      have ED : Hid (EnD gt gO gN gD g1 g2 r rv' gs) := by
        have k := K7.out
        have d := LD.out
        refine ⟨by omega, M3.out.2.2.2.1, fun e => ?_, NE3.out, by omega, by omega, fun e => M3.out.1 e.symm, by omega, by omega, M3.out.2.1, M3.out.2.2.1, fun i g hi hg => ?_, fun i g hi hg => (SG.out i g hi hg).1⟩
        · have := lR _ e; omega
        · have := (SG.out i g hi hg).2; omega
      have ES : Hid (EnS w4 gt gO gN gD g1 g2 n r rv' gs (OF r) (List.replicate (n + 1) 0) (List.replicate (n + 1) 0) os zs EF) := ⟨T4.out, O3.out.call b4.out, R7.out, ND3.out.call b4.out, G13.out.call b4.out, G23.out.call b4.out⟩
      have NO : Hid (rv'.ownBlock ≠ some gN) := fun e => by have := lR _ e; have := K7.out; omega
      have DG : Hid (gt < gN) := by show gt < gN; have := K7.out; omega
      have RL : Hid (r ≤ n) := by show r ≤ n; have := HR0.out; omega
      have LG := hid hM.out.1
      clear hg7 hb2 a1 h7 l1 l2 lO lT lR T3 ND3 NE3 zD LD O3 G13 G23 B3 M3 SG R7 K7 T4 hM hT hO hg1 hg2 hB b4 q0
      -- the state of this round
      have NXr := hid (NX.out r); have DNr := hid (DN.out r); have OLr := hid (OL.out r)
      have BNr := hid (fun i j k => BN.out r i j k RL.out); have BDr := hid (fun i j k => BD.out r i j k RL.out); have BOr := hid (fun i => BO.out r i RL.out)
      obtain ⟨O, hO⟩ : ∃ O, OF r = O := ⟨_, rfl⟩
      rw [hO] at NXr DNr OLr BNr BDr BOr ES
      clear hO
      go_wp2_with fail
      go_loopw [41] (fun ii wr => ∃ i : Nat, ii = .int .i64 (i : Nat) ∧ i ≤ n + 1 ∧ Hid (EnS wr gt gO gN gD g1 g2 n r rv' gs O (aOut os O n i) (aOut zs O n i) os zs EF) ∧ Hid (Below w.heap.size w wr)) (fun ii wr => n + 1 - (intOf ii).toNat)
      case atStart => exact ⟨0, rfl, Nat.zero_le _, ES, B4⟩
      case round =>
        clear ES
        obtain ⟨i, rfl, hi, hS, hB⟩ := hrel
        by_cases hlt : i < n + 1
        · have q0 : decide ((i : Int) < ((n + 1 : Nat) : Int)) = true := by simp; omega
          have di : decide ((i : Int) < (n : Int) + 1) = true := by simp; omega
          have f0 : (0 : Int) ≤ (i : Int) := by omega
          have f1 : (i : Int) < ((n + 1 : Nat) : Int) := by omega
          have f1' : (i : Int) < (n : Int) + 1 := by omega
          have f2 : (i : Int) ≤ 1000 := by have := HN.out; omega
          have IL := hid hlt
          clear hi hlt
          go_wp2_with fail
          obtain ⟨x, hx⟩ : ∃ x, O.getD i 0 = x := ⟨_, rfl⟩
          obtain ⟨wo, rfl⟩ : ∃ wo : World, wo = wr := ⟨_, rfl⟩
          have hnx : Hid (aOut os O n (i + 1) = aIn os x i (n + 1 - i) (aOut os O n i)) := by show _ = _; rw [aOut, hx]
          have hdn : Hid (aOut zs O n (i + 1) = aIn zs x i (n + 1 - i) (aOut zs O n i)) := by show _ = _; rw [aOut, hx]
          by_cases hx0 : x = 0
          · have k0 : wo.cell? ⟨gO, i, none⟩ = some (.string (numB x)) := by rw [← hx]; exact hS.out.o.cell (by rw [OLr.out]; exact IL.out)
            have q1 : ((numB x).toList == [48]) = true := by rw [hx0, numB_zero]; exact lit_zero
            have e1 : Hid (aOut os O n (i + 1) = aOut os O n i) := by show _ = _; rw [hnx.out, hx0, aIn_zero]
            have e2 : Hid (aOut zs O n (i + 1) = aOut zs O n i) := by show _ = _; rw [hdn.out, hx0, aIn_zero]
            obtain ⟨sx, hsx⟩ : ∃ s, numB x = s := ⟨_, rfl⟩
            rw [hsx] at k0 q1
            clear hx hx0 hsx
            go_loopw [12] (fun jj wq => jj = .int .i64 0 ∧ wq = wo) (fun jj wq => 0)
            case atStart => exact ⟨rfl, rfl⟩
            case round =>
              obtain ⟨rfl, rfl⟩ := hrel
              go_wp2_with fail
              go_roundw
              case rel => exact ⟨i + 1, by go_num, by have := IL.out; omega, by rw [e1.out, e2.out]; exact hS, hB⟩
              case measure => simp [intOf] <;> (have := IL.out; omega)
          · have q1 : ((numB x).toList == [48]) = false := ne_lit (l := [48]) (by rw [← numB_zero]; exact numB_ne hx0)
            have AOL : Hid (∀ c, (aOut c O n i).length = n + 1) := fun c => aOut_length c O n i
            have BNi := hid (fun j k => BNr.out i j k (by have := IL.out; omega)); have BDi := hid (fun j k => BDr.out i j k (by have := IL.out; omega))
            have hxb : x ≤ 2 ^ 200 := by rw [← hx]; exact BOr.out i (by have := IL.out; omega)
            have HXB := hid hxb
            have HX := hid hx
            rw [hx] at BNi BDi
            obtain ⟨nx0, hnx0⟩ : ∃ l, aOut os O n i = l := ⟨_, rfl⟩
            obtain ⟨dn0, hdn0⟩ : ∃ l, aOut zs O n i = l := ⟨_, rfl⟩
            have HNL : Hid (∀ j, (aIn os x i j nx0).length = n + 1) := fun j => by rw [aIn_length, ← hnx0]; exact AOL.out os
            have HDL : Hid (∀ j, (aIn zs x i j dn0).length = n + 1) := fun j => by rw [aIn_length, ← hdn0]; exact AOL.out zs
            rw [hnx0] at BNi hnx hS
            rw [hdn0] at BDi hdn hS
            obtain ⟨sx, hsx⟩ : ∃ s, numB x = s := ⟨_, rfl⟩
            rw [hsx] at q1
            have HSX := hid hsx
            clear hx hx0 hsx hnx0 hdn0 hxb AOL
            go_loopw [12] (fun jj wq => ∃ j : Nat, jj = .int .i64 (j : Nat) ∧ i + j ≤ n + 1 ∧ Hid (EnS wq gt gO gN gD g1 g2 n r rv' gs O (aIn os x i j nx0) (aIn zs x i j dn0) os zs EF) ∧ Hid (Below w.heap.size w wq)) (fun jj wq => n + 1 - (intOf jj).toNat)
            case atStart => exact ⟨0, rfl, by have := IL.out; omega, hS, hB⟩
            case round =>
              clear hS hB
              obtain ⟨j, rfl, hj, hS, hB⟩ := hrel
              have k0 : wr.cell? ⟨gO, i, none⟩ = some (.string sx) := by
                refine (hS.out.o.cell (by rw [OLr.out]; exact IL.out)).trans ?_
                rw [HX.out, HSX.out]
              by_cases hlt : i + j ≤ n
              · have q2 : decide ((i : Int) + (j : Int) ≤ (n : Int)) = true := by simp; omega
                have f5 : (0 : Int) ≤ (j : Int) := by omega
                have f6 : (j : Int) < ((n + 1 : Nat) : Int) := by omega
                have f6' : (j : Int) < (n : Int) + 1 := by omega
                have f7 : (j : Int) ≤ 1000 := by have := HN.out; omega
                have f8 : (i : Int) + (j : Int) < ((n + 1 : Nat) : Int) := by omega
                have f9 : (i : Int) + (j : Int) < (n : Int) + 1 := by omega
                have f10 : (0 : Int) ≤ (i : Int) + (j : Int) := by omega
                have c1 : wr.cell? ⟨g1, j, none⟩ = some (.bool (os j)) := (hS.out.b1.cell j).trans (by rw [List.getElem?_toArray, allB_get (by omega)])
                have c2 : wr.cell? ⟨g2, j, none⟩ = some (.bool (zs j)) := (hS.out.b2.cell j).trans (by rw [List.getElem?_toArray, allB_get (by omega)])
                have HLT := hid hlt
                obtain ⟨zj, hzj⟩ : ∃ b, zs j = b := ⟨_, rfl⟩
                obtain ⟨oj, hoj⟩ : ∃ b, os j = b := ⟨_, rfl⟩
                rw [hoj] at c1
                rw [hzj] at c2
                have HZJ := hid hzj; have HOJ := hid hoj
                clear hlt hj hzj hoj
                obtain ⟨y1, hy1⟩ : ∃ y, (aIn zs x i j dn0).getD (i + j) 0 = y := ⟨_, rfl⟩
                obtain ⟨y2, hy2⟩ : ∃ y, (aIn os x i j nx0).getD (i + j) 0 = y := ⟨_, rfl⟩
                have p2 : (2 : Nat) ^ 201 = 2 ^ 200 + 2 ^ 200 := by rw [show (201 : Nat) = 200 + 1 from rfl, Nat.pow_succ]
                have hxb := HXB.out
                have hy1b : y1 ≤ 2 ^ 200 := hy1 ▸ BDi.out j (i + j) (by have := HLT.out; omega) HLT.out
                have hy2b : y2 ≤ 2 ^ 200 := hy2 ▸ BNi.out j (i + j) (by have := HLT.out; omega) HLT.out
                have dx := two_pow_digits hxb (by omega)
                have P1 := fun V hV => hid (p_plus V y1 x (two_pow_digits hy1b (by omega)) dx (two_pow_digits (i := 201) (by rw [p2]; exact Nat.add_le_add hy1b hxb) (by omega)) hV)
                have P2 := fun V hV => hid (p_plus V y2 x (two_pow_digits hy2b (by omega)) dx (two_pow_digits (i := 201) (by rw [p2]; exact Nat.add_le_add hy2b hxb) (by omega)) hV)
                have t1 : wr.cell? ⟨gD, i + j, none⟩ = some (.string (numB y1)) := by rw [← hy1]; exact hS.out.dn.cell (by rw [HDL.out]; have := HLT.out; omega)
                have t2 : wr.cell? ⟨gN, i + j, none⟩ = some (.string (numB y2)) := by rw [← hy2]; exact hS.out.nx.cell (by rw [HNL.out]; have := HLT.out; omega)
                rw [HSX.out] at P1 P2
                obtain ⟨u1, hu1⟩ : ∃ s, numB y1 = s := ⟨_, rfl⟩
                obtain ⟨u2, hu2⟩ : ∃ s, numB y2 = s := ⟨_, rfl⟩
                rw [hu1] at P1 t1
                rw [hu2] at P2 t2
                have HY1 := hid hy1; have HY2 := hid hy2; have HU2 := hid hu2
                obtain ⟨m1, hm1⟩ : ∃ s, numB (y1 + x) = s := ⟨_, rfl⟩
                obtain ⟨m2, hm2⟩ : ∃ s, numB (y2 + x) = s := ⟨_, rfl⟩
                rw [hm1] at P1
                rw [hm2] at P2
                have HM1 := hid hm1; have HM2 := hid hm2
                have k1 := k0
                have k2 := k0
                have HOL := OLr
                clear hm1 hm2
                clear hy1 hy2 p2 hxb hy1b hy2b dx hu1 hu2
                cases zj
                · have hD0 : Hid (aIn zs x i (j + 1) dn0 = aIn zs x i j dn0) := by show _ = _; rw [aIn, HZJ.out, addAt_false]
                  cases oj
                  · have hN0 : Hid (aIn os x i (j + 1) nx0 = aIn os x i j nx0) := by show _ = _; rw [aIn, HOJ.out, addAt_false]
                    go_wp2_with fail
                    go_roundw
                    case rel => exact ⟨j + 1, by go_num, by have := HLT.out; omega, by rw [hN0.out, hD0.out]; exact hS, hB⟩
                    case measure => simp [intOf] <;> (have := HLT.out; omega)
                  · have hN0 : Hid (aIn os x i (j + 1) nx0 = (aIn os x i j nx0).set (i + j) (y2 + x)) := by show _ = _; rw [aIn, HOJ.out, addAt_true, HY2.out]
                    go_wp2_with fail
                    have ew : IntKind.i64.wrap ((i : Int) + (j : Int)) = (i : Int) + (j : Int) := by rw [IntWalk.i64_in _ ⟨by omega, by omega⟩]
                    have et : ((i : Int) + (j : Int)).toNat = i + j := by omega
                    refine held_lasts 15 2 [0, 1, 2, 3, 4, 5, 6, 7, 8, 9, 10, 11, 12, 13] 1 (fun W' => W'.cell? ⟨gN, i + j, none⟩ = some (.string u2) ∧ W'.cell? ⟨gO, i, none⟩ = some (.string sx)) (by kernel_rfl) rfl (by kernel_rfl) (by kernel_rfl) (by kernel_rfl) (by kernel_rfl) ⟨t2, k2⟩ ?_
                    iterate 14
                      refine ⟨_, rfl, ?_⟩
                      apply Exists.intro
                      refine ⟨.inl ⟨by rfl, ?_⟩, ?_⟩
                      · (intro W' hW'; obtain ⟨r1, r2⟩ := hW'; go_simp; try (with_reducible rfl))
                      (dsimp only [Act.put]; try simp only [List.setIfInBounds_toArray, List.set_cons_zero, List.set_cons_succ])
                    refine held_one (i := 14) (by kernel_rfl) (by rfl) (by rfl) ?_
                    go_wp2_with fail
                    refine (P2 _ (HL.out.below hB.out.drew HLL.out)).out.mono ?_; rintro e w5 ⟨rfl, hbc⟩
                    have C2 := hid (show Below wr.heap.size wr w5 from (Below.refl _ _).drew.trans hbc)
                    have E2 := hid (hS.out.call C2.out); have F2 := hid (hB.out.trans (C2.out.mono hB.out.size))
                    have tc2 := (C2.out.cell (cell_lt t2)).trans t2
                    have kc2 := (C2.out.cell (cell_lt k2)).trans k2
                    clear hbc
                    go_wp2_with fail
                    refine ⟨⟨tc2, kc2⟩, ?_⟩
                    refine wpAnyH_done (by kernel_rfl) ?_ _
                    simp only [Only, ThenL, List.drop_succ_cons, List.drop_zero]
                    have fz2 := E2.out.nx.free (i + j)
                    clear kc2
                    go_wp2_with fail
                    try simp only [Only]
                    go_roundw
                    case rel => exact ⟨j + 1, by go_num, by have := HLT.out; omega, by rw [hN0.out, hD0.out, ← HM2.out]; exact E2.out.setN ED.out (i + j) (y2 + x), F2.out.setCell QN.out _⟩
                    case measure => simp [intOf] <;> (have := HLT.out; omega)
                · have hD0 : Hid (aIn zs x i (j + 1) dn0 = (aIn zs x i j dn0).set (i + j) (y1 + x)) := by show _ = _; rw [aIn, HZJ.out, addAt_true, HY1.out]
                  cases oj
                  · have hN0 : Hid (aIn os x i (j + 1) nx0 = aIn os x i j nx0) := by show _ = _; rw [aIn, HOJ.out, addAt_false]
                    go_wp2_with fail
                    have ew : IntKind.i64.wrap ((i : Int) + (j : Int)) = (i : Int) + (j : Int) := by rw [IntWalk.i64_in _ ⟨by omega, by omega⟩]
                    have et : ((i : Int) + (j : Int)).toNat = i + j := by omega
                    refine held_lasts 15 2 [0, 1, 2, 3, 4, 5, 6, 7, 8, 9, 10, 11, 12, 13] 1 (fun W' => W'.cell? ⟨gD, i + j, none⟩ = some (.string u1) ∧ W'.cell? ⟨gO, i, none⟩ = some (.string sx)) (by kernel_rfl) rfl (by kernel_rfl) (by kernel_rfl) (by kernel_rfl) (by kernel_rfl) ⟨t1, k1⟩ ?_
                    iterate 14
                      refine ⟨_, rfl, ?_⟩
                      apply Exists.intro
                      refine ⟨.inl ⟨by rfl, ?_⟩, ?_⟩
                      · (intro W' hW'; obtain ⟨r1, r2⟩ := hW'; go_simp; try (with_reducible rfl))
                      (dsimp only [Act.put]; try simp only [List.setIfInBounds_toArray, List.set_cons_zero, List.set_cons_succ])
                    refine held_one (i := 14) (by kernel_rfl) (by rfl) (by rfl) ?_
                    go_wp2_with fail
                    refine (P1 _ (HL.out.below hB.out.drew HLL.out)).out.mono ?_; rintro e w5 ⟨rfl, hbc⟩
                    have C1 := hid (show Below wr.heap.size wr w5 from (Below.refl _ _).drew.trans hbc)
                    have E1 := hid (hS.out.call C1.out); have F1 := hid (hB.out.trans (C1.out.mono hB.out.size))
                    have tc1 := (C1.out.cell (cell_lt t1)).trans t1
                    have kc1 := (C1.out.cell (cell_lt k1)).trans k1
                    clear hbc
                    go_wp2_with fail
                    refine ⟨⟨tc1, kc1⟩, ?_⟩
                    refine wpAnyH_done (by kernel_rfl) ?_ _
                    simp only [Only, ThenL, List.drop_succ_cons, List.drop_zero]
                    have fz1 := E1.out.dn.free (i + j)
                    clear kc1
                    have S6 : Hid (EnS (w5.setCell ⟨gD, i + j, none⟩ (.string m1)) gt gO gN gD g1 g2 n r rv' gs O (aIn os x i j nx0) ((aIn zs x i j dn0).set (i + j) (y1 + x)) os zs EF) := by rw [← HM1.out]; exact E1.out.setD ED.out (i + j) (y1 + x)
                    have c1s : (w5.setCell ⟨gD, i + j, none⟩ (.string m1)).cell? ⟨g1, j, none⟩ = some (.bool false) := (S6.out.b1.cell j).trans (by rw [List.getElem?_toArray, allB_get (by have := HLT.out; omega), HOJ.out])
                    go_wp2_with fail
                    try simp only [Only]
                    go_roundw
                    case rel => exact ⟨j + 1, by go_num, by have := HLT.out; omega, by rw [hN0.out, hD0.out]; exact S6, F1.out.setCell QD.out _⟩
                    case measure => simp [intOf] <;> (have := HLT.out; omega)
                  · have hN0 : Hid (aIn os x i (j + 1) nx0 = (aIn os x i j nx0).set (i + j) (y2 + x)) := by show _ = _; rw [aIn, HOJ.out, addAt_true, HY2.out]
                    go_wp2_with fail
                    have ew : IntKind.i64.wrap ((i : Int) + (j : Int)) = (i : Int) + (j : Int) := by rw [IntWalk.i64_in _ ⟨by omega, by omega⟩]
                    have et : ((i : Int) + (j : Int)).toNat = i + j := by omega
                    refine held_lasts 15 2 [0, 1, 2, 3, 4, 5, 6, 7, 8, 9, 10, 11, 12, 13] 1 (fun W' => W'.cell? ⟨gD, i + j, none⟩ = some (.string u1) ∧ W'.cell? ⟨gO, i, none⟩ = some (.string sx)) (by kernel_rfl) rfl (by kernel_rfl) (by kernel_rfl) (by kernel_rfl) (by kernel_rfl) ⟨t1, k1⟩ ?_
                    iterate 14
                      refine ⟨_, rfl, ?_⟩
                      apply Exists.intro
                      refine ⟨.inl ⟨by rfl, ?_⟩, ?_⟩
                      · (intro W' hW'; obtain ⟨r1, r2⟩ := hW'; go_simp; try (with_reducible rfl))
                      (dsimp only [Act.put]; try simp only [List.setIfInBounds_toArray, List.set_cons_zero, List.set_cons_succ])
                    refine held_one (i := 14) (by kernel_rfl) (by rfl) (by rfl) ?_
                    go_wp2_with fail
                    refine (P1 _ (HL.out.below hB.out.drew HLL.out)).out.mono ?_; rintro e w5 ⟨rfl, hbc⟩
                    have C1 := hid (show Below wr.heap.size wr w5 from (Below.refl _ _).drew.trans hbc)
                    have E1 := hid (hS.out.call C1.out); have F1 := hid (hB.out.trans (C1.out.mono hB.out.size))
                    have tc1 := (C1.out.cell (cell_lt t1)).trans t1
                    have kc1 := (C1.out.cell (cell_lt k1)).trans k1
                    clear hbc
                    go_wp2_with fail
                    refine ⟨⟨tc1, kc1⟩, ?_⟩
                    refine wpAnyH_done (by kernel_rfl) ?_ _
                    simp only [Only, ThenL, List.drop_succ_cons, List.drop_zero]
                    have fz1 := E1.out.dn.free (i + j)
                    clear kc1
                    have S6 : Hid (EnS (w5.setCell ⟨gD, i + j, none⟩ (.string m1)) gt gO gN gD g1 g2 n r rv' gs O (aIn os x i j nx0) ((aIn zs x i j dn0).set (i + j) (y1 + x)) os zs EF) := by rw [← HM1.out]; exact E1.out.setD ED.out (i + j) (y1 + x)
                    have c1s : (w5.setCell ⟨gD, i + j, none⟩ (.string m1)).cell? ⟨g1, j, none⟩ = some (.bool true) := (S6.out.b1.cell j).trans (by rw [List.getElem?_toArray, allB_get (by have := HLT.out; omega), HOJ.out])
                    go_wp2_with fail
                    try simp only [Only]
                    have B6 := hid (F1.out.setCell (p := ⟨gD, i + j, none⟩) QD.out (.string m1))
                    obtain ⟨w6, hw6⟩ : ∃ W, w5.setCell ⟨gD, i + j, none⟩ (.string m1) = W := ⟨_, rfl⟩
                    rw [hw6] at S6 B6 ⊢
                    have k2 : w6.cell? ⟨gO, i, none⟩ = some (.string sx) := by
                      refine (S6.out.o.cell (by rw [HOL.out]; exact IL.out)).trans ?_
                      rw [HX.out, HSX.out]
                    have t2 : w6.cell? ⟨gN, i + j, none⟩ = some (.string u2) := by
                      refine (S6.out.nx.cell (by rw [HNL.out j]; have := HLT.out; omega)).trans ?_
                      rw [HY2.out, HU2.out]
                    clear hw6 c1s fz1 tc1 ew t1 k1
                    have ew : IntKind.i64.wrap ((i : Int) + (j : Int)) = (i : Int) + (j : Int) := by rw [IntWalk.i64_in _ ⟨by omega, by omega⟩]
                    refine held_lasts 15 2 [0, 1, 2, 3, 4, 5, 6, 7, 8, 9, 10, 11, 12, 13] 1 (fun W' => W'.cell? ⟨gN, i + j, none⟩ = some (.string u2) ∧ W'.cell? ⟨gO, i, none⟩ = some (.string sx)) (by kernel_rfl) rfl (by kernel_rfl) (by kernel_rfl) (by kernel_rfl) (by kernel_rfl) ⟨t2, k2⟩ ?_
                    iterate 14
                      refine ⟨_, rfl, ?_⟩
                      apply Exists.intro
                      refine ⟨.inl ⟨by rfl, ?_⟩, ?_⟩
                      · (intro W' hW'; obtain ⟨r1, r2⟩ := hW'; go_simp; try (with_reducible rfl))
                      (dsimp only [Act.put]; try simp only [List.setIfInBounds_toArray, List.set_cons_zero, List.set_cons_succ])
                    refine held_one (i := 14) (by kernel_rfl) (by rfl) (by rfl) ?_
                    go_wp2_with fail
                    refine (P2 _ (HL.out.below B6.out.drew HLL.out)).out.mono ?_; rintro e w7 ⟨rfl, hbc⟩
                    have C2 := hid (show Below w6.heap.size w6 w7 from (Below.refl _ _).drew.trans hbc)
                    have E2 := hid (S6.out.call C2.out); have F2 := hid (B6.out.trans (C2.out.mono B6.out.size))
                    have tc2 := (C2.out.cell (cell_lt t2)).trans t2
                    have kc2 := (C2.out.cell (cell_lt k2)).trans k2
                    clear hbc
                    go_wp2_with fail
                    refine ⟨⟨tc2, kc2⟩, ?_⟩
                    refine wpAnyH_done (by kernel_rfl) ?_ _
                    simp only [Only, ThenL, List.drop_succ_cons, List.drop_zero]
                    have fz2 := E2.out.nx.free (i + j)
                    clear kc2
                    go_wp2_with fail
                    try simp only [Only]
                    go_roundw
                    case rel => exact ⟨j + 1, by go_num, by have := HLT.out; omega, by rw [hN0.out, hD0.out, ← HM2.out]; exact E2.out.setN ED.out (i + j) (y2 + x), F2.out.setCell QN.out _⟩
                    case measure => simp [intOf] <;> (have := HLT.out; omega)
              · have q2 : decide ((i : Int) + (j : Int) ≤ (n : Int)) = false := by simp; omega
                have e1 : j = n + 1 - i := by omega
                have f7 : (j : Int) ≤ 1001 := by have := HN.out; omega
                have f5 : (0 : Int) ≤ (j : Int) := by omega
                subst e1
                clear hj hlt
                go_wp2_with fail
                go_roundw
                case rel => exact ⟨i + 1, by go_num, by have := IL.out; omega, by rw [hnx.out, hdn.out]; exact hS, hB⟩
                case measure => simp [intOf] <;> (have := IL.out; omega)
        · have q0 : decide ((i : Int) < ((n + 1 : Nat) : Int)) = false := by simp; omega
          have di : decide ((i : Int) < (n : Int) + 1) = false := by simp; omega
          have e1 : i = n + 1 := by omega
          subst e1
          rw [NXr.out, DNr.out] at hS
          clear hi hlt
          have wr1 : IntKind.i64.wrap ((r : Int) + 1) = ((r + 1 : Nat) : Int) := by have := RL.out; have := HN.out; rw [IntWalk.i64_in _ ⟨by omega, by omega⟩]; omega
          go_wp2_with fail
          go_roundw
          case rel =>
            refine ⟨r + 1, gN, rv', gs ++ [gD], rfl, by go_num, by have := RL.out; omega, ⟨by rw [List.length_append, LG.out]; rfl, DG.out, NO.out⟩, ?_, hS.out.nx, hS.out.b1, hS.out.b2, hB⟩
            have h := hS.out.tab
            refine ⟨h.blk, h.own, fun i g hi hg => ?_, h.ne, fun i g hi hg => ?_, fun i g hi hg => ?_⟩
            · by_cases hi2 : i < r
              · exact h.rows i g hi2 hg
              · obtain rfl : i = r := by omega
                rw [List.getElem?_append_right (by have := LG.out; omega), LG.out, Nat.sub_self] at hg
                simp at hg
                subst hg
                exact hS.out.dn
            · by_cases hi2 : i < r
              · exact h.sep i g hi2 hg
              · obtain rfl : i = r := by omega
                rw [List.getElem?_append_right (by have := LG.out; omega), LG.out, Nat.sub_self] at hg
                simp at hg
                subst hg
                exact ED.out.rD
            · by_cases hi2 : i < r
              · exact h.gne i g hi2 hg
              · obtain rfl : i = r := by omega
                rw [List.getElem?_append_right (by have := LG.out; omega), LG.out, Nat.sub_self] at hg
                simp at hg
                subst hg
                exact ED.out.tD
          case measure => simp [intOf] <;> (have := RL.out; omega)
    · have q0 : decide ((r : Int) < ((n + 1 : Nat) : Int)) = false := by simp; omega
      have dr : decide ((r : Int) < (n : Int) + 1) = false := by simp; omega
      have e1 : r = n + 1 := by omega
      subst e1
      clear hr hlt
      unfold rowV
      go_wp2_with fail
      go_ret
      refine ⟨⟨gt, rfl, D1.out.2.2, ?_⟩, hB.out⟩
      rw [HEF.out]
      exact tabR_of hT.out hM.out.1 (fun i => by rw [← HEF.out]; exact fnL_length _ _) (by have := HN.out; omega)
end Go.Proofs.YtgphopkifomffaaGreatDoor
namespace Go.Proofs.YtgphopkifomffaaGreatDoor
open Go.RowKit Go.Maps
open Go.Lib (decDigits nDigits)
set_option linter.unusedVariables false
set_option linter.unusedSimpArgs false
set_option maxRecDepth 100000 in
set_option maxHeartbeats 1000000 in
theorem c_Or (w : World) (g x : Nat) (h : Blk w g #[.string (cellB x), .string ⟨#[48]⟩] 22) :
    Calls Tryz.prog 147 #[.slice (some ⟨g, 0, none⟩) 2 2] w fun e w' => e = .returned (.string (numB x)) ∧ w = w' := by
  have r0 := h.cell 0
  have r1 := h.cell 1
  simp at r0 r1
  by_cases hx : x = 0
  · subst hx
    have e1 : cellB 0 = ⟨#[]⟩ := rfl
    have e2 : numB 0 = ⟨#[48]⟩ := numB_zero
    rw [e1] at r0
    rw [e2]
    clear h e1 e2
    go_enter Tryz.func147, Tryz.ntmps147
    go_wp2_with fail
    go_loopw [8] (fun ii wr => ∃ i : Nat, ii = .int .i64 (i : Nat) ∧ i ≤ 1 ∧ wr = w) (fun ii wr => 2 - (intOf ii).toNat)
    case atStart => exact ⟨0, rfl, Nat.zero_le _, rfl⟩
    case round =>
      obtain ⟨i, rfl, hi, rfl⟩ := hrel
      rcases Nat.lt_or_ge i 1 with h0 | h0
      · obtain rfl : i = 0 := by omega
        clear hi h0
        go_wp2_with fail
        go_roundw
        case rel => exact ⟨1, by go_num, by omega, by simp⟩
        case measure => simp [intOf]
      · obtain rfl : i = 1 := by omega
        clear hi h0
        go_wp2_with fail
        go_ret
        exact ⟨rfl, rfl⟩
  · have e1 : cellB x = numB x := if_neg hx
    rw [e1] at r0
    have q1 : ((numB x).toList == []) = false := ne_lit (l := []) (fun e => by
      have h1 := numB_size x
      rw [e] at h1
      have h2 := Go.Lib.nDigits_pos x
      simp [ByteArray.size] at h1
      omega)
    obtain ⟨s, hs⟩ : ∃ s, numB x = s := ⟨_, rfl⟩
    rw [hs] at r0 q1 ⊢
    clear h e1 hs hx
    go_enter Tryz.func147, Tryz.ntmps147
    go_wp2_with fail
    go_loopw [8] (fun ii wr => ii = .int .i64 0 ∧ wr = w) (fun ii wr => 0)
    case atStart => exact ⟨rfl, rfl⟩
    case round =>
      obtain ⟨rfl, rfl⟩ := hrel
      go_wp2_with fail
      go_ret
      exact ⟨rfl, rfl⟩
structure GlS (H : Type) (w1 w : World) (B K : Nat) (c : Int → Nat) : Prop where
  bel : Below w1.heap.size w1 w
  ex : ∃ (nn : Nat) (D : DataW H), nn ≤ K ∧ w.ownsMap Tryz.prog 3 (plainElem Tryz.prog 22) B nn D ∧ ReadsI D c
theorem GlS.mono {H : Type} {w1 w : World} {B K K' : Nat} {c c' : Int → Nat} (h : GlS H w1 w B K c) (hK : K ≤ K') (hc : c = c') : GlS H w1 w B K' c' := by
  subst hc
  obtain ⟨h1, nn, D, h2, h3, h4⟩ := h
  exact ⟨h1, nn, D, by omega, h3, h4⟩
theorem below_map {w1 w w' : World} {B : Nat} (h : Below w1.heap.size w1 w) (hg : w.grownBy w' (some B)) (hB : w1.heap.size ≤ B) : Below w1.heap.size w1 w' := by
  refine ⟨hg.os.trans h.os, hg.tape.trans h.tape, hg.output.trans h.output, Nat.le_trans h.size hg.size, fun i hi => ?_⟩
  exact (hg.block i (by have := h.size; omega) (fun e => by injection e with e; omega)).trans (h.block i hi)
theorem wf_int {v : Int} (h1 : -100000 ≤ v) (h2 : v ≤ 100000) : (Lit.int .i64 v).wf = true := WalkArith.wf_i64 ⟨by omega, by omega⟩
theorem nd_mul_pw {x y a b : Nat} (h1 : x ≤ 2 ^ a) (h2 : y ≤ 2 ^ b) (h : a + b ≤ 3000) : nDigits (x * y) ≤ 4000 := two_pow_digits (by rw [Nat.pow_add]; exact Nat.mul_le_mul h1 h2) h
theorem numB_size_le {x : Nat} (h : nDigits x ≤ 4000) : (numB x).size ≤ maxLen := by rw [numB_size]; unfold maxLen; omega
end Go.Proofs.YtgphopkifomffaaGreatDoor
namespace Go.Proofs.YtgphopkifomffaaGreatDoor
open Go.RowKit Go.Maps
open Go.Lib (decDigits nDigits)
set_option linter.unusedVariables false
set_option linter.unusedSimpArgs false
set_option maxRecDepth 100000 in
set_option maxHeartbeats 8000000 in
theorem g_law1 {H : Type} (w : World) (a : ByteArray) (n N D : Nat) (ha : a.size ≤ 100000) (he : gPE a = 0) (hn : n ≤ 32) (hN : bN (cW a) = N) (hD : bN (qD a) = D) (hND : N < D) (hL : Lay w) :
    Calls Tryz.prog 97 #[.string a, .int .i64 n, .bool false] w fun e w' => (∃ B nn Dm, e = .returned (.map (some B)) ∧ w.heap.size ≤ B ∧ nn ≤ 3000000 ∧ w'.ownsMap Tryz.prog 3 (plainElem (H := H) Tryz.prog 22) B nn Dm ∧ ReadsI Dm (gV N D false n)) ∧ Below w.heap.size w w' := by
  have HE := hid (g_ends w a n N D ha he hn hN hD hND hL)
  have HAT : Hid (∀ V gt i k, TabR V gt n (ednL N D n) → i ≤ n → k ≤ n → Calls Tryz.prog 146 #[.pointer (some ⟨gt, 0, none⟩), .int .i64 (i : Nat), .int .i64 (k : Nat)] V fun e w' => e = .returned (.string (numB (edn N D i k))) ∧ V = w') := fun V gt i k hT hi hk => by
    have := tb_at V gt n i k (ednL N D n) hT hi hk (by omega)
    unfold ednL at this
    rw [fnL_get hk] at this
    exact this
  have HPW := fun V k (hk : k ≤ 1000) hV => hid (g_power V k hk hV)
  have EB : Hid (∀ i k, i ≤ n → k ≤ n → edn N D i k ≤ 2 ^ 200) := fun i k hi hk => Nat.le_trans (edn_bd hn i k hk) (Nat.pow_le_pow_right (by omega) (by omega))
  have HL := hid hL; have HLL := hid hL.lt; have HN := hid hn; have HND := hid hND
  have wn : IntKind.i64.wrap ((n : Int) + 1) = ((n + 1 : Nat) : Int) := by rw [IntWalk.i64_in _ ⟨by omega, by omega⟩]; omega
  have hmm := @run_makeMap Tryz.prog
  clear ha he hn hN hD hND hL
  go_enter Tryz.func97, Tryz.ntmps97
  go_wp2_with fail
  refine HE.out.mono ?_; rintro e w1 ⟨⟨gt, rfl, hgt, hT⟩, hb1⟩
  have T1 := hid hT; have B1 := hid hb1
  clear hT hb1 HE hgt
  have TK : Hid (∀ V, Below w1.heap.size w1 V → TabR V gt n (ednL N D n)) := fun V hV => T1.out.call hV
  have LK : Hid (∀ V, Below w1.heap.size w1 V → Lay V) := fun V hV => (HL.out.call B1.out).call hV
  have HR0 : Hid (∀ V, Below w1.heap.size w1 V → ∃ g c, n + 1 ≤ c ∧ c ≤ 9223372036854775807 ∧ V.cell? ⟨gt, 0, none⟩ = some (.slice (some ⟨g, 0, none⟩) (n + 1) c)) := fun V hV => by
    obtain ⟨-, g, c, h1, h2, h3, -, -⟩ := TK.out V hV
    exact ⟨g, c, h1, h2, h3⟩
  have G0 : Hid (GlS H w1 (w1.alloc (.map #[] 0)) w1.heap.size 0 (fun _ => 0)) := ⟨(Below.refl _ _).alloc (Nat.le_refl _) _, 0, .map [], Nat.le_refl _, World.ownsMap_made _ _ _ _, ReadsI.nil⟩
  obtain ⟨g, c, hc1, hc2, r0⟩ := HR0.out _ G0.out.bel
  clear T1
  go_wp2_with fail
  obtain ⟨W1, hW1⟩ : ∃ W, w1.alloc (.map #[] 0) = W := ⟨_, rfl⟩
  obtain ⟨B, hB⟩ : ∃ B, w1.heap.size = B := ⟨_, rfl⟩
  have HB := hid hB
  have G1 : Hid (GlS H w1 W1 B 0 (fun _ => 0)) := by rw [← hW1, ← hB]; exact G0.out
  rw [hW1, hB]
  clear hW1 hB G0 r0 hc1 hc2
  go_loopw [22] (fun ii wr => ∃ i : Nat, ii = .int .i64 (i : Nat) ∧ i ≤ n + 1 ∧ Hid (GlS H w1 wr B (i * 64000) (c1 N D n i 0))) (fun ii wr => n + 1 - (intOf ii).toNat)
  case atStart => exact ⟨0, rfl, Nat.zero_le _, hid (by rw [c1_zero]; exact G1.out)⟩
  case round =>
    obtain ⟨i, rfl, hi, hG⟩ := hrel
    by_cases hlt : i < n + 1
    · have q0 : decide ((i : Int) < ((n + 1 : Nat) : Int)) = true := by simp; omega
      have di : decide ((i : Int) < (n : Int) + 1) = true := by simp; omega
      have IL := hid hlt
      have f2 : (i : Int) ≤ 100 := by have := HN.out; omega
      clear hi hlt
      go_wp2_with fail
      go_loopw [27] (fun ss wq => ∃ s : Nat, ss = .int .i64 (s : Nat) ∧ s ≤ n + 1 ∧ Hid (GlS H w1 wq B (i * 64000 + s * 1600) (c1 N D n i s))) (fun ss wq => n + 1 - (intOf ss).toNat)
      case atStart => exact ⟨0, rfl, Nat.zero_le _, hid (hG.out.mono (by omega) rfl)⟩
      case round =>
        clear hG
        obtain ⟨s, rfl, hs, hG⟩ := hrel
        by_cases hlt : s < n + 1
        · have q0 : decide ((s : Int) < ((n + 1 : Nat) : Int)) = true := by simp; omega
          have d30 : decide ((s : Int) < (n : Int) + 1) = true := by simp; omega
          have SL := hid hlt
          have f3 : (s : Int) ≤ 100 := by have := HN.out; omega
          have A1 := fun V hV => hid (HAT.out V gt i s (TK.out V hV) (by have := IL.out; omega) (by have := SL.out; omega))
          obtain ⟨x, hx⟩ : ∃ x, edn N D i s = x := ⟨_, rfl⟩
          rw [hx] at A1
          have bx : x ≤ 2 ^ 200 := hx ▸ EB.out i s (by have := IL.out; omega) (by have := SL.out; omega)
          by_cases hx0 : x = 0
          · have q1 : ((numB x).toList == [48]) = true := by rw [hx0, numB_zero]; exact lit_zero
            have hsk := hid (c1_skip (N := N) (D := D) (n := n) (i := i) (s := s) (hx.trans hx0))
            obtain ⟨sx, hsx⟩ : ∃ s, numB x = s := ⟨_, rfl⟩
            rw [hsx] at A1 q1
            clear hs hlt hx bx hx0 hsx
            go_wp2_with fail
            refine (A1 _ hG.out.bel).out.mono ?_; rintro e w2 ⟨rfl, rfl⟩
            go_wp2_with fail
            go_roundw
            case rel => exact ⟨s + 1, by go_num, by have := SL.out; omega, hid (by rw [hsk.out]; exact hG.out.mono (by omega) rfl)⟩
            case measure => simp [intOf] <;> (have := SL.out; omega)
          · have q1 : ((numB x).toList == [48]) = false := ne_lit (l := [48]) (by rw [← numB_zero]; exact numB_ne hx0)
            obtain ⟨hbl, nn, Dm, hnn, hO, hR⟩ := hG.out
            have hcl := c1_le (N := N) (D := D) HND.out (n := n) (i := i) (s := s) (by have := IL.out; omega) (by omega) (i : Int)
            have hcl2 := c1_le (N := N) (D := D) HND.out (n := n) (i := i) (s := s + 1) (by have := IL.out; omega) (by have := SL.out; omega) (i : Int)
            have hgv := gV_le HND.out false n (i : Int)
            have hstep := c1_step N D n i s
            rw [hstep] at hcl2
            rw [hx] at hstep hcl2
            unfold addM at hcl2
            rw [if_pos rfl] at hcl2
            have hp2 : 2 ^ (n - s) ≤ 2 ^ 32 := Nat.pow_le_pow_right (by omega) (by have := HN.out; omega)
            have hpn : 2 ^ n ≤ 2 ^ 32 := Nat.pow_le_pow_right (by omega) HN.out
            have hxp : 0 < x * 2 ^ (n - s) := Nat.mul_pos (by omega) (Nat.pow_pos (by omega))
            have hRP := ReadsI.put hR (i : Int) hxp
            have HRP := hid hRP; have HO := hid hO; have HNN := hid hnn; have HBL := hid hbl; have HST := hid hstep
            obtain ⟨y, hy⟩ : ∃ y, c1 N D n i s (i : Int) = y := ⟨_, rfl⟩
            have HLK : Hid (∀ V, Below wr.heap.size wr V → (Instr.lookup 137 (.map (some B)) (.int .i64 (i : Nat)) false).run Tryz.prog V = .ok (.string (cellB y)) V) := fun V hV => by
              have := look_i (HO.out.kept (row := none) ⟨hV.os, hV.tape, hV.output, hV.size, fun k hk _ => hV.block k hk⟩ (by simp)) hR (wf_int (v := (i : Int)) (by omega) (by omega))
              rw [hy] at this
              exact this
            rw [hy] at HRP hcl hcl2
            have dx := two_pow_digits bx (by omega)
            have dp := two_pow_digits hp2 (by omega)
            have dxp := two_pow_digits (i := 32) (show x * 2 ^ (n - s) ≤ 2 ^ 32 by omega) (by omega)
            have dy := two_pow_digits (i := 32) (show y ≤ 2 ^ 32 by omega) (by omega)
            have ds := two_pow_digits (i := 32) (show y + x * 2 ^ (n - s) ≤ 2 ^ 32 by omega) (by omega)
            have P0 := fun V hV => HPW V (n - s) (by have := HN.out; omega) hV
            have P1 := fun V hV => hid (p_times V x (2 ^ (n - s)) dx dp dxp hV)
            have P2 := fun V hV => hid (p_plus V y (x * 2 ^ (n - s)) dy dxp ds hV)
            have POR := fun V g h => hid (c_Or V g y h)
            have hsz := hid (numB_size_le ds)
            have wsub : IntKind.i64.wrap ((n : Int) - (s : Int)) = ((n - s : Nat) : Int) := by have := HN.out; have := SL.out; rw [IntWalk.i64_in _ ⟨by omega, by omega⟩]; omega
            obtain ⟨sx, hsx⟩ : ∃ t, numB x = t := ⟨_, rfl⟩
            obtain ⟨sp, hsp⟩ : ∃ t, numB (2 ^ (n - s)) = t := ⟨_, rfl⟩
            obtain ⟨sxp, hsxp⟩ : ∃ t, numB (x * 2 ^ (n - s)) = t := ⟨_, rfl⟩
            obtain ⟨sy, hsy⟩ : ∃ t, numB y = t := ⟨_, rfl⟩
            obtain ⟨sz, hszz⟩ : ∃ t, numB (y + x * 2 ^ (n - s)) = t := ⟨_, rfl⟩
            obtain ⟨cy, hcy⟩ : ∃ t, cellB y = t := ⟨_, rfl⟩
            rw [hsx] at A1 q1
            rw [hsp] at P0
            rw [hsx, hsp, hsxp] at P1
            rw [hsy, hsxp, hszz] at P2
            rw [hsy, hcy] at POR
            rw [hcy] at HLK
            rw [hszz] at hsz HRP
            have Z0 : Hid (w1.heap.size ≤ wr.heap.size) := hbl.size
            clear hs hlt hx bx hx0 hsx hcl hcl2 hgv hstep hp2 hpn hxp hRP hbl hnn hO hR hy dx dp dxp dy ds hsp hsxp hsy hszz hcy
            have lk := HLK.out wr (Below.refl _ _)
            have C2 : Blk (wr.alloc (.cells #[.string cy, .string ⟨#[48]⟩] 22)) wr.heap.size #[.string cy, .string ⟨#[48]⟩] 22 := Blk.new wr #[.string cy, .string ⟨#[48]⟩] 22
            have A2 := hid (show Below wr.heap.size wr (wr.alloc (.cells #[.string cy, .string ⟨#[48]⟩] 22)) from (Below.refl _ _).alloc (Nat.le_refl _) _)
            have F2 := hid (bnext HBL.out A2.out)
            go_wp2_with fail
            refine (A1 _ hG.out.bel).out.mono ?_; rintro e w2 ⟨rfl, rfl⟩
            go_wp2_with fail
            refine (POR _ _ C2).out.mono ?_; rintro e w2 ⟨rfl, rfl⟩
            clear lk C2
            go_wp2_with fail
            refine (A1 _ F2.out).out.mono ?_; rintro e w2 ⟨rfl, rfl⟩
            go_wp2_with fail
            refine (P0 _ (LK.out _ F2.out)).out.mono ?_; rintro e w3 ⟨rfl, hb3⟩
            have A3 := hid (bnext A2.out hb3)
            clear hb3
            go_wp2_with fail
            refine (P1 _ (LK.out _ (bnext HBL.out A3.out))).out.mono ?_; rintro e w4 ⟨rfl, hb4⟩
            have A4 := hid (bnext A3.out hb4)
            clear hb4
            go_wp2_with fail
            refine (P2 _ (LK.out _ (bnext HBL.out A4.out))).out.mono ?_; rintro e w5 ⟨rfl, hb5⟩
            have A5 := hid (bnext A4.out hb5)
            clear hb5
            go_wp2_with (at_mapUpdate; refine wpList_mapUpdate_own _ rfl _ _ _ 137 rfl 3 22 (int_keyed Tryz.underlying3) Tryz.underlying137 _ B nn _ rfl (HO.out.kept (row := none) ⟨A5.out.os, A5.out.tape, A5.out.output, A5.out.size, fun k hk _ => A5.out.block k hk⟩ (by simp)) (by have := HNN.out; have := HN.out; have := IL.out; have := SL.out; unfold maxLen; omega) _ _ _ rfl rfl (keyOf_int_mk Tryz.underlying3 (wf_int (v := (i : Int)) (by omega) (by omega))) _ [] (plainElem_string Tryz.underlying22 hsz.out) ?_; intro w6 hown hgrow)
            have OW := hid hown
            have B6 := hid (below_map (bnext HBL.out A5.out) hgrow (by rw [HB.out]; exact Nat.le_refl _))
            clear hown hgrow HLK
            go_roundw
            case rel =>
              refine ⟨s + 1, by go_num, by have := SL.out; omega, hid ⟨B6.out, nn + 1, _, by have := HNN.out; omega, OW.out, ?_⟩⟩
              rw [HST.out]
              exact HRP.out
            case measure => simp [intOf] <;> (have := SL.out; omega)
        · have q0 : decide ((s : Int) < ((n + 1 : Nat) : Int)) = false := by simp; omega
          have d30 : decide ((s : Int) < (n : Int) + 1) = false := by simp; omega
          have e1 : s = n + 1 := by omega
          subst e1
          clear hs hlt
          have hrow := hid (c1_row N D n i)
          go_wp2_with fail
          go_roundw
          case rel => exact ⟨i + 1, by go_num, by have := IL.out; omega, hid (hG.out.mono (by have := HN.out; omega) hrow.out)⟩
          case measure => simp [intOf] <;> (have := IL.out; omega)
    · have q0 : decide ((i : Int) < ((n + 1 : Nat) : Int)) = false := by simp; omega
      have di : decide ((i : Int) < (n : Int) + 1) = false := by simp; omega
      have e1 : i = n + 1 := by omega
      subst e1
      clear hi hlt
      obtain ⟨hbl, nn, Dm, h1, h2, h3⟩ := hG.out
      have HBL := hid hbl; have H1 := hid h1; have H2 := hid h2; have H3 := hid h3
      clear hbl h1 h2 h3
      go_wp2_with fail
      go_ret
      refine ⟨⟨B, nn, Dm, rfl, by rw [← HB.out]; exact B1.out.size, by have := H1.out; have := HN.out; omega, H2.out, ?_⟩, bnext B1.out HBL.out⟩
      have e2 : c1 N D n (n + 1) 0 = gV N D false n := funext fun v => c1_end HND.out n v
      rw [← e2]
      exact H3.out
end Go.Proofs.YtgphopkifomffaaGreatDoor
namespace Go.Proofs.YtgphopkifomffaaGreatDoor
open Go.RowKit Go.Maps
open Go.Lib (decDigits nDigits)
set_option linter.unusedVariables false
set_option linter.unusedSimpArgs false
set_option maxRecDepth 100000 in
set_option maxHeartbeats 8000000 in
theorem g_law2 {H : Type} (w : World) (a : ByteArray) (n N D : Nat) (ha : a.size ≤ 100000) (he : gPE a = 0) (hn : n ≤ 32) (hN : bN (cW a) = N) (hD : bN (qD a) = D) (hND : N < D) (hL : Lay w) :
    Calls Tryz.prog 97 #[.string a, .int .i64 n, .bool true] w fun e w' => (∃ B nn Dm, e = .returned (.map (some B)) ∧ w.heap.size ≤ B ∧ nn ≤ 3000000 ∧ w'.ownsMap Tryz.prog 3 (plainElem (H := H) Tryz.prog 22) B nn Dm ∧ ReadsI Dm (gV N D true n)) ∧ Below w.heap.size w w' := by
  have HE := hid (g_ends w a n N D ha he hn hN hD hND hL)
  have HAT : Hid (∀ V gt i k, TabR V gt n (ednL N D n) → i ≤ n → k ≤ n → Calls Tryz.prog 146 #[.pointer (some ⟨gt, 0, none⟩), .int .i64 (i : Nat), .int .i64 (k : Nat)] V fun e w' => e = .returned (.string (numB (edn N D i k))) ∧ V = w') := fun V gt i k hT hi hk => by
    have := tb_at V gt n i k (ednL N D n) hT hi hk (by omega)
    unfold ednL at this
    rw [fnL_get hk] at this
    exact this
  have HPW := fun V k (hk : k ≤ 1000) hV => hid (g_power V k hk hV)
  have EB : Hid (∀ i k, i ≤ n → k ≤ n → edn N D i k ≤ 2 ^ 200) := fun i k hi hk => Nat.le_trans (edn_bd hn i k hk) (Nat.pow_le_pow_right (by omega) (by omega))
  have HL := hid hL; have HLL := hid hL.lt; have HN := hid hn; have HND := hid hND
  have wn : IntKind.i64.wrap ((n : Int) + 1) = ((n + 1 : Nat) : Int) := by rw [IntWalk.i64_in _ ⟨by omega, by omega⟩]; omega
  have hmm := @run_makeMap Tryz.prog
  clear ha he hn hN hD hND hL
  go_enter Tryz.func97, Tryz.ntmps97
  go_wp2_with fail
  refine HE.out.mono ?_; rintro e w1 ⟨⟨gt, rfl, hgt, hT⟩, hb1⟩
  have T1 := hid hT; have B1 := hid hb1
  clear hT hb1 HE hgt
  have TK : Hid (∀ V, Below w1.heap.size w1 V → TabR V gt n (ednL N D n)) := fun V hV => T1.out.call hV
  have LK : Hid (∀ V, Below w1.heap.size w1 V → Lay V) := fun V hV => (HL.out.call B1.out).call hV
  have HR0 : Hid (∀ V, Below w1.heap.size w1 V → ∃ g c, n + 1 ≤ c ∧ c ≤ 9223372036854775807 ∧ V.cell? ⟨gt, 0, none⟩ = some (.slice (some ⟨g, 0, none⟩) (n + 1) c)) := fun V hV => by
    obtain ⟨-, g, c, h1, h2, h3, -, -⟩ := TK.out V hV
    exact ⟨g, c, h1, h2, h3⟩
  have G0 : Hid (GlS H w1 (w1.alloc (.map #[] 0)) w1.heap.size 0 (fun _ => 0)) := ⟨(Below.refl _ _).alloc (Nat.le_refl _) _, 0, .map [], Nat.le_refl _, World.ownsMap_made _ _ _ _, ReadsI.nil⟩
  obtain ⟨g, c, hc1, hc2, r0⟩ := HR0.out _ G0.out.bel
  clear T1
  go_wp2_with fail
  obtain ⟨W1, hW1⟩ : ∃ W, w1.alloc (.map #[] 0) = W := ⟨_, rfl⟩
  obtain ⟨B, hB⟩ : ∃ B, w1.heap.size = B := ⟨_, rfl⟩
  have HB := hid hB
  have G1 : Hid (GlS H w1 W1 B 0 (fun _ => 0)) := by rw [← hW1, ← hB]; exact G0.out
  rw [hW1, hB]
  clear hW1 hB G0 r0 hc1 hc2
  go_loopw [22] (fun ii wr => ∃ i : Nat, ii = .int .i64 (i : Nat) ∧ i ≤ n + 1 ∧ Hid (GlS H w1 wr B (i * 64000) (c2 N D n i 0 0 0))) (fun ii wr => n + 1 - (intOf ii).toNat)
  case atStart => exact ⟨0, rfl, Nat.zero_le _, hid (by rw [c2_zero]; exact G1.out)⟩
  case round =>
    obtain ⟨i, rfl, hi, hG⟩ := hrel
    by_cases hlt : i < n + 1
    · have q0 : decide ((i : Int) < ((n + 1 : Nat) : Int)) = true := by simp; omega
      have di : decide ((i : Int) < (n : Int) + 1) = true := by simp; omega
      have IL := hid hlt
      have f2 : (i : Int) ≤ 100 := by have := HN.out; omega
      clear hi hlt
      go_wp2_with fail
      go_loopw [27] (fun ss wq => ∃ s : Nat, ss = .int .i64 (s : Nat) ∧ s ≤ n + 1 ∧ Hid (GlS H w1 wq B (i * 64000 + s * 1600) (c2 N D n i s 0 0))) (fun ss wq => n + 1 - (intOf ss).toNat)
      case atStart => exact ⟨0, rfl, Nat.zero_le _, hid (hG.out.mono (by omega) rfl)⟩
      case round =>
        clear hG
        obtain ⟨s, rfl, hs, hG⟩ := hrel
        by_cases hlt : s < n + 1
        · have q0 : decide ((s : Int) < ((n + 1 : Nat) : Int)) = true := by simp; omega
          have d30 : decide ((s : Int) < (n : Int) + 1) = true := by simp; omega
          have SL := hid hlt
          have f3 : (s : Int) ≤ 100 := by have := HN.out; omega
          have A1 := fun V hV => hid (HAT.out V gt i s (TK.out V hV) (by have := IL.out; omega) (by have := SL.out; omega))
          obtain ⟨x, hx⟩ : ∃ x, edn N D i s = x := ⟨_, rfl⟩
          rw [hx] at A1
          have bx : x ≤ 2 ^ 200 := hx ▸ EB.out i s (by have := IL.out; omega) (by have := SL.out; omega)
          by_cases hx0 : x = 0
          · have q1 : ((numB x).toList == [48]) = true := by rw [hx0, numB_zero]; exact lit_zero
            have hsk := hid (c2_none (N := N) (D := D) (n := n) (i := i) (s := s) (hx.trans hx0))
            obtain ⟨sx, hsx⟩ : ∃ s, numB x = s := ⟨_, rfl⟩
            rw [hsx] at A1 q1
            clear hs hlt hx bx hx0 hsx
            go_wp2_with fail
            refine (A1 _ hG.out.bel).out.mono ?_; rintro e w2 ⟨rfl, rfl⟩
            go_wp2_with fail
            go_roundw
            case rel => exact ⟨s + 1, by go_num, by have := SL.out; omega, hid (by rw [hsk.out]; exact hG.out.mono (by omega) rfl)⟩
            case measure => simp [intOf] <;> (have := SL.out; omega)
          · have q1 : ((numB x).toList == [48]) = false := ne_lit (l := [48]) (by rw [← numB_zero]; exact numB_ne hx0)
            have HX := hid hx; have BX := hid bx; have HX0 := hid hx0
            obtain ⟨sx, hsx⟩ : ∃ s, numB x = s := ⟨_, rfl⟩
            rw [hsx] at A1 q1
            have HSX := hid hsx
            obtain ⟨g', c', hc1', hc2', r0'⟩ := HR0.out _ hG.out.bel
            clear hs hlt hx bx hx0 hsx
            go_wp2_with fail
            refine (A1 _ hG.out.bel).out.mono ?_; rintro e w2 ⟨rfl, rfl⟩
            go_wp2_with fail
            clear q1
            go_loopw [59] (fun kk wq => ∃ k : Nat, kk = .int .i64 (k : Nat) ∧ k ≤ n + 1 ∧ Hid (GlS H w1 wq B (i * 64000 + s * 1600 + k * 40) (c2 N D n i s k 0))) (fun kk wq => n + 1 - (intOf kk).toNat)
            case atStart => exact ⟨0, rfl, Nat.zero_le _, hid (hG.out.mono (by omega) rfl)⟩
            case round =>
              clear r0' hG
              obtain ⟨k, rfl, hk, hG⟩ := hrel
              by_cases hlt : k < n + 1
              · have q0 : decide ((k : Int) < ((n + 1 : Nat) : Int)) = true := by simp; omega
                have dk : decide ((k : Int) < (n : Int) + 1) = true := by simp; omega
                have KL := hid hlt
                have f4 : (k : Int) ≤ 100 := by have := HN.out; omega
                clear hk hlt
                go_wp2_with fail
                go_loopw [12] (fun uu wq => ∃ u : Nat, uu = .int .i64 (u : Nat) ∧ s + u ≤ n + 1 ∧ Hid (GlS H w1 wq B (i * 64000 + s * 1600 + k * 40 + u) (c2 N D n i s k u))) (fun uu wq => n + 1 - (intOf uu).toNat)
                case atStart => exact ⟨0, rfl, by have := SL.out; omega, hid (hG.out.mono (by omega) rfl)⟩
                case round =>
                  clear hG
                  obtain ⟨u, rfl, hu, hG⟩ := hrel
                  by_cases hlt : s + u ≤ n
                  · have q2 : decide ((s : Int) + (u : Int) ≤ (n : Int)) = true := by simp; omega
                    have UL := hid hlt
                    have f5 : (u : Int) ≤ 100 := by have := HN.out; omega
                    have A2 := fun V hV => hid (HAT.out V gt k u (TK.out V hV) (by have := KL.out; omega) (by have := UL.out; omega))
                    obtain ⟨y, hy⟩ : ∃ y, edn N D k u = y := ⟨_, rfl⟩
                    rw [hy] at A2
                    have by' : y ≤ 2 ^ 200 := hy ▸ EB.out k u (by have := KL.out; omega) (by omega)
                    by_cases hy0 : y = 0
                    · have q1 : ((numB y).toList == [48]) = true := by rw [hy0, numB_zero]; exact lit_zero
                      have hsk := hid (c2_skip (N := N) (D := D) (n := n) (i := i) (s := s) (k := k) (u := u) (hy.trans hy0))
                      obtain ⟨sy, hsy⟩ : ∃ s, numB y = s := ⟨_, rfl⟩
                      rw [hsy] at A2 q1
                      clear hu hlt hy by' hy0 hsy
                      go_wp2_with fail
                      refine (A2 _ hG.out.bel).out.mono ?_; rintro e w2 ⟨rfl, rfl⟩
                      go_wp2_with fail
                      go_roundw
                      case rel => exact ⟨u + 1, by go_num, by have := UL.out; omega, hid (by rw [hsk.out]; exact hG.out.mono (by omega) rfl)⟩
                      case measure => simp [intOf] <;> (have := UL.out; omega)
                    · have q1 : ((numB y).toList == [48]) = false := ne_lit (l := [48]) (by rw [← numB_zero]; exact numB_ne hy0)
                      obtain ⟨hbl, nn, Dm, hnn, hO, hR⟩ := hG.out
                      obtain ⟨v, hv⟩ : ∃ v : Int, (i : Int) - (k : Int) = v := ⟨_, rfl⟩
                      have hvb : -1000 ≤ v ∧ v ≤ 1000 := ⟨by omega, by have := IL.out; have := HN.out; omega⟩
                      have hcl := c2_le (N := N) (D := D) HND.out (n := n) (i := i) (s := s) (k := k) (u := u) (by have := IL.out; omega) (by omega) (by have := KL.out; omega) (by omega) v
                      have hcl2 := c2_le (N := N) (D := D) HND.out (n := n) (i := i) (s := s) (k := k) (u := u + 1) (by have := IL.out; omega) (by omega) (by have := KL.out; omega) (by omega) v
                      have hgv := gV_le HND.out true n v
                      have hstep := c2_u N D n i s k u
                      rw [hstep] at hcl2
                      rw [HX.out, hy, hv] at hstep hcl2
                      unfold addM at hcl2
                      rw [if_pos rfl] at hcl2
                      obtain ⟨m, hm⟩ : ∃ m, n - s - u = m := ⟨_, rfl⟩
                      obtain ⟨ns, hns⟩ : ∃ m, n - s = m := ⟨_, rfl⟩
                      have hm32 : m ≤ 32 := by have := HN.out; omega
                      have wsub : IntKind.i64.wrap ((n : Int) - (s : Int)) = (ns : Int) := by rw [IntWalk.i64_in _ ⟨by omega, by omega⟩]; omega
                      have wsub2 : IntKind.i64.wrap ((ns : Int) - (u : Int)) = (m : Int) := by rw [IntWalk.i64_in _ ⟨by omega, by omega⟩]; omega
                      have wik : IntKind.i64.wrap ((i : Int) - (k : Int)) = v := by rw [IntWalk.i64_in _ ⟨by omega, by omega⟩]; exact hv
                      rw [hm] at hstep hcl2
                      have hp2 : 2 ^ m ≤ 2 ^ 32 := Nat.pow_le_pow_right (by omega) hm32
                      have hpn : 2 ^ n ≤ 2 ^ 32 := Nat.pow_le_pow_right (by omega) HN.out
                      obtain ⟨xy, hxy⟩ : ∃ z, x * y = z := ⟨_, rfl⟩
                      have hxy0 : 0 < xy := by rw [← hxy]; exact Nat.mul_pos (by have := HX0.out; omega) (by omega)
                      have hxp : 0 < xy * 2 ^ m := Nat.mul_pos hxy0 (Nat.pow_pos (by omega))
                      have dxy' := nd_mul_pw BX.out by' (by omega)
                      rw [hxy] at dxy'
                      have dx := two_pow_digits BX.out (by omega)
                      have dyy := two_pow_digits by' (by omega)
                      have PXY := fun V hV => hid (p_times V x y dx dyy (by rw [hxy]; exact dxy') hV)
                      rw [hxy] at hstep hcl2 PXY
                      have hRP := ReadsI.put hR v hxp
                      have HRP := hid hRP; have HO := hid hO; have HNN := hid hnn; have HBL := hid hbl; have HST := hid hstep
                      obtain ⟨z, hz⟩ : ∃ y, c2 N D n i s k u v = y := ⟨_, rfl⟩
                      have HLK : Hid (∀ V, Below wr.heap.size wr V → (Instr.lookup 137 (.map (some B)) (.int .i64 v) false).run Tryz.prog V = .ok (.string (cellB z)) V) := fun V hV => by
                        have := look_i (HO.out.kept (row := none) ⟨hV.os, hV.tape, hV.output, hV.size, fun k hk _ => hV.block k hk⟩ (by simp)) hR (wf_int (v := v) (by omega) (by omega))
                        rw [hz] at this
                        exact this
                      rw [hz] at HRP hcl hcl2
                      have dp := two_pow_digits hp2 (by omega)
                      have dxp := two_pow_digits (i := 32) (show xy * 2 ^ m ≤ 2 ^ 32 by omega) (by omega)
                      have dz := two_pow_digits (i := 32) (show z ≤ 2 ^ 32 by omega) (by omega)
                      have ds := two_pow_digits (i := 32) (show z + xy * 2 ^ m ≤ 2 ^ 32 by omega) (by omega)
                      have P0 := fun V hV => HPW V m (by omega) hV
                      have P1 := fun V hV => hid (p_times V xy (2 ^ m) dxy' dp dxp hV)
                      have P2 := fun V hV => hid (p_plus V z (xy * 2 ^ m) dz dxp ds hV)
                      have POR := fun V g h => hid (c_Or V g z h)
                      have hsz := hid (numB_size_le ds)
                      have hwf := hid (keyOf_int_mk Tryz.underlying3 (wf_int (v := v) (by omega) (by omega)))
                      obtain ⟨sy, hsy⟩ : ∃ t, numB y = t := ⟨_, rfl⟩
                      obtain ⟨sxy, hsxy⟩ : ∃ t, numB xy = t := ⟨_, rfl⟩
                      obtain ⟨sp, hsp⟩ : ∃ t, numB (2 ^ m) = t := ⟨_, rfl⟩
                      obtain ⟨sxp, hsxp⟩ : ∃ t, numB (xy * 2 ^ m) = t := ⟨_, rfl⟩
                      obtain ⟨sz, hsz1⟩ : ∃ t, numB z = t := ⟨_, rfl⟩
                      obtain ⟨st, hst⟩ : ∃ t, numB (z + xy * 2 ^ m) = t := ⟨_, rfl⟩
                      obtain ⟨cz, hcz⟩ : ∃ t, cellB z = t := ⟨_, rfl⟩
                      rw [hsy] at A2 q1
                      rw [HSX.out, hsy, hsxy] at PXY
                      rw [hsp] at P0
                      rw [hsxy, hsp, hsxp] at P1
                      rw [hsz1, hsxp, hst] at P2
                      rw [hsz1, hcz] at POR
                      rw [hcz] at HLK
                      rw [hst] at hsz HRP
                      clear hu hlt hy by' hy0 hbl hnn hO hR hv hvb hcl hcl2 hgv hstep hm hns hm32 hp2 hpn hxy hxy0 hxp dxy' dx dyy hRP hz dp dxp dz ds hsy hsxy hsp hsxp hsz1 hst hcz
                      have lk := HLK.out wr (Below.refl _ _)
                      have C2 : Blk (wr.alloc (.cells #[.string cz, .string ⟨#[48]⟩] 22)) wr.heap.size #[.string cz, .string ⟨#[48]⟩] 22 := Blk.new wr #[.string cz, .string ⟨#[48]⟩] 22
                      have F2 := hid (show Below wr.heap.size wr (wr.alloc (.cells #[.string cz, .string ⟨#[48]⟩] 22)) from (Below.refl _ _).alloc (Nat.le_refl _) _)
                      have E2 := hid (bnext HBL.out F2.out)
                      go_wp2_with fail
                      refine (A2 _ hG.out.bel).out.mono ?_; rintro e w2 ⟨rfl, rfl⟩
                      go_wp2_with fail
                      refine (POR _ _ C2).out.mono ?_; rintro e w2 ⟨rfl, rfl⟩
                      clear lk C2
                      go_wp2_with fail
                      refine (A1 _ E2.out).out.mono ?_; rintro e w2 ⟨rfl, rfl⟩
                      go_wp2_with fail
                      refine (A2 _ E2.out).out.mono ?_; rintro e w2 ⟨rfl, rfl⟩
                      go_wp2_with fail
                      refine (PXY _ (LK.out _ E2.out)).out.mono ?_; rintro e w3 ⟨rfl, hb3⟩
                      have F3 := hid (bnext F2.out hb3)
                      clear hb3
                      go_wp2_with fail
                      refine (P0 _ (LK.out _ (bnext HBL.out F3.out))).out.mono ?_; rintro e w4 ⟨rfl, hb4⟩
                      have F4 := hid (bnext F3.out hb4)
                      clear hb4
                      go_wp2_with fail
                      refine (P1 _ (LK.out _ (bnext HBL.out F4.out))).out.mono ?_; rintro e w5 ⟨rfl, hb5⟩
                      have F5 := hid (bnext F4.out hb5)
                      clear hb5
                      go_wp2_with fail
                      refine (P2 _ (LK.out _ (bnext HBL.out F5.out))).out.mono ?_; rintro e w6 ⟨rfl, hb6⟩
                      have F6 := hid (bnext F5.out hb6)
                      clear hb6
                      go_wp2_with (at_mapUpdate; refine wpList_mapUpdate_own _ rfl _ _ _ 137 rfl 3 22 (int_keyed Tryz.underlying3) Tryz.underlying137 _ B nn _ rfl (HO.out.kept (row := none) ⟨F6.out.os, F6.out.tape, F6.out.output, F6.out.size, fun k hk _ => F6.out.block k hk⟩ (by simp)) (by have := HNN.out; have := HN.out; have := IL.out; have := SL.out; have := KL.out; have := UL.out; unfold maxLen; omega) _ _ _ rfl rfl hwf.out _ [] (plainElem_string Tryz.underlying22 hsz.out) ?_; intro w7 hown hgrow)
                      have OW := hid hown
                      have B7 := hid (below_map (bnext HBL.out F6.out) hgrow (by rw [HB.out]; exact Nat.le_refl _))
                      clear hown hgrow HLK
                      go_roundw
                      case rel =>
                        refine ⟨u + 1, by go_num, by have := UL.out; omega, hid ⟨B7.out, nn + 1, _, by have := HNN.out; omega, OW.out, ?_⟩⟩
                        rw [HST.out]
                        exact HRP.out
                      case measure => simp [intOf] <;> (have := UL.out; omega)
                  · have q2 : decide ((s : Int) + (u : Int) ≤ (n : Int)) = false := by simp; omega
                    have e1 : u = n - s + 1 := by have := SL.out; omega
                    have f5 : (u : Int) ≤ 100 := by have := HN.out; omega
                    subst e1
                    clear hu hlt
                    have hck := hid (c2_k N D n i s k)
                    go_wp2_with fail
                    go_roundw
                    case rel => exact ⟨k + 1, by go_num, by have := KL.out; omega, hid (hG.out.mono (by have := HN.out; omega) hck.out)⟩
                    case measure => simp [intOf] <;> (have := KL.out; omega)
              · have q0 : decide ((k : Int) < ((n + 1 : Nat) : Int)) = false := by simp; omega
                have dk : decide ((k : Int) < (n : Int) + 1) = false := by simp; omega
                have e1 : k = n + 1 := by omega
                subst e1
                clear hk hlt
                have hcs := hid (c2_s N D n i s)
                go_wp2_with fail
                go_roundw
                case rel => exact ⟨s + 1, by go_num, by have := SL.out; omega, hid (hG.out.mono (by have := HN.out; omega) hcs.out)⟩
                case measure => simp [intOf] <;> (have := SL.out; omega)
        · have q0 : decide ((s : Int) < ((n + 1 : Nat) : Int)) = false := by simp; omega
          have d30 : decide ((s : Int) < (n : Int) + 1) = false := by simp; omega
          have e1 : s = n + 1 := by omega
          subst e1
          clear hs hlt
          have hrow := hid (c2_i N D n i)
          go_wp2_with fail
          go_roundw
          case rel => exact ⟨i + 1, by go_num, by have := IL.out; omega, hid (hG.out.mono (by have := HN.out; omega) hrow.out)⟩
          case measure => simp [intOf] <;> (have := IL.out; omega)
    · have q0 : decide ((i : Int) < ((n + 1 : Nat) : Int)) = false := by simp; omega
      have di : decide ((i : Int) < (n : Int) + 1) = false := by simp; omega
      have e1 : i = n + 1 := by omega
      subst e1
      clear hi hlt
      obtain ⟨hbl, nn, Dm, h1, h2, h3⟩ := hG.out
      have HBL := hid hbl; have H1 := hid h1; have H2 := hid h2; have H3 := hid h3
      clear hbl h1 h2 h3
      go_wp2_with fail
      go_ret
      refine ⟨⟨B, nn, Dm, rfl, by rw [← HB.out]; exact B1.out.size, by have := H1.out; have := HN.out; omega, H2.out, ?_⟩, bnext B1.out HBL.out⟩
      have e2 : c2 N D n (n + 1) 0 0 0 = gV N D true n := funext fun v => c2_end HND.out n v
      rw [← e2]
      exact H3.out
end Go.Proofs.YtgphopkifomffaaGreatDoor
namespace Go.Proofs.YtgphopkifomffaaGreatDoor
open Go.RowKit
open Go.Lib (decDigits nDigits)
set_option linter.unusedVariables false
set_option linter.unusedSimpArgs false
def glE (a : ByteArray) (n : Int) (m : Int) : Int := if gPE a ≠ 0 then gPE a else if n < 0 ∨ m < n then 2 else 0
end Go.Proofs.YtgphopkifomffaaGreatDoor
