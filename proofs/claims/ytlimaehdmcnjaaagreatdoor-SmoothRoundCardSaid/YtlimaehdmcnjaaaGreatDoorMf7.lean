/- Texts that the proof rests on, merged: QC, FrC, Ins, So5, ShL, Last2, So6, So11, Sy1, KoS, R1o, R3a, R4s, R2s, R2t, Sw1. -/
import Derived.Test.YtlimaehdmcnjaaaGreatDoorMf6
import Derived.Shelf.Small.Bits
import Derived.Ground.NamesProg
import Derived.Test.YtlimaehdmcnjaaaGreatDoorProg
import Derived.Laws.Concat
import Derived.Deep.DeepCutAuto
set_option linter.unusedVariables false
set_option linter.unusedSimpArgs false
set_option linter.unusedSectionVars false
set_option maxRecDepth 100000
set_option maxHeartbeats 8000000
namespace Go.Proofs.YtlimaehdmcnjaaaGreatDoor
open Go.RowKit
def cmF (p q : Rat) : Int := if sgQ p ≠ sgQ q then sgQ p - sgQ q else if p.num < 0 then -ordN (p.num.natAbs * q.den) (q.num.natAbs * p.den) else ordN (p.num.natAbs * q.den) (q.num.natAbs * p.den)
theorem sgQ_scale {q : Rat} {d : Nat} (hd : 0 < d) : sgQ q = sgnZ (q.num * (d : Int)) := by
 have hd' : (0 : Int) < (d : Int) := by omega
 unfold sgQ sgnZ
 by_cases h0 : q.num = 0
 ·rw [if_pos h0, h0, Int.zero_mul, if_pos rfl]
 ·rw [if_neg h0]
  have hne : q.num * (d : Int) ≠ 0 := Int.mul_ne_zero h0 (by omega)
  rw [if_neg hne]
  by_cases h1 : q.num < 0
  ·rw [if_pos h1, if_pos (Int.mul_neg_of_neg_of_pos h1 hd')]
  ·rw [if_neg h1, if_neg (by have := Int.mul_pos (a := q.num) (b := (d : Int)) (by omega) hd'; omega)]
theorem clamp_int {P Q : Int} {a b : Nat} (ha : P.natAbs = a) (hb : Q.natAbs = b) :
 max (-1) (min 1 (if sgnZ P ≠ sgnZ Q then sgnZ P - sgnZ Q else if P < 0 then -ordN a b else ordN a b)) = sgnZ (P - Q) := by
 unfold sgnZ ordN
 split <;> (repeat' split) <;> omega
theorem cmF_clamp (p q : Rat) : max (-1) (min 1 (cmF p q)) = ordQ p q := by
 have e1 : ordQ p q = sgnZ (p.num * q.den - q.num * p.den) := by
  have h := ordQ_mk (a := p.num) (b := p.den) (c := q.num) (d := q.den) p.den_nz q.den_nz
  rw [Rat.mkRat_self, Rat.mkRat_self] at h
  exact h
 have h1 := sgQ_scale (q := p) (d := q.den) q.den_pos
 have h2 := sgQ_scale (q := q) (d := p.den) p.den_pos
 have hP : (p.num * (q.den : Int)).natAbs = p.num.natAbs * q.den := by rw [Int.natAbs_mul, Int.natAbs_natCast]
 have hQ : (q.num * (p.den : Int)).natAbs = q.num.natAbs * p.den := by rw [Int.natAbs_mul, Int.natAbs_natCast]
 have hs : p.num < 0 ↔ p.num * (q.den : Int) < 0 := by
  have hd : (0 : Int) < (q.den : Int) := by have := q.den_pos; omega
  constructor
  ·intro h; exact Int.mul_neg_of_neg_of_pos h hd
  ·intro h
   rcases Int.lt_or_le p.num 0 with h' | h'
   ·exact h'
   ·exact absurd (Int.mul_nonneg h' (Int.le_of_lt hd)) (by omega)
 rw [e1, ← clamp_int hP hQ, ← h1, ← h2]
 unfold cmF
 simp only [hs]
theorem cmF_sign (p q : Rat) : (0 < cmF p q ↔ 0 < ordQ p q) ∧ (cmF p q < 0 ↔ ordQ p q < 0) ∧ (cmF p q = 0 ↔ ordQ p q = 0) := by
 have := cmF_clamp p q
 omega
theorem sgQ_bd (q : Rat) : -1 ≤ sgQ q ∧ sgQ q ≤ 1 := by
 unfold sgQ
 split
 ·omega
 ·split <;> omega
theorem ordN_bd (a b : Nat) : -1 ≤ ordN a b ∧ ordN a b ≤ 1 := by
 unfold ordN
 split
 ·omega
 ·split <;> omega
theorem f_Cmp (w : World) (v u : Value) (p q : Rat) (hp : IsQ .u64 w v p) (hq : IsQ .u64 w u q)
 (h1 : (limbs p.num.natAbs).length ≤ 100000) (h2 : (limbs p.den).length ≤ 100000) (h3 : (limbs q.num.natAbs).length ≤ 100000) (h4 : (limbs q.den).length ≤ 100000) :
 Calls Tryz.prog 42 #[v, u] w fun e w' => e = .returned (.int .i64 (cmF p q)) ∧ Below w.heap.size w w' := by
 have PS1 := fun V v h => hid (f_Sign V v p h)
 have PS2 := fun V v h => hid (f_Sign V v q h)
 have PM1 := fun V v u hv hu => hid (l_Mul V v u p.num.natAbs q.den hv hu (Nat.le_trans h1 (by omega)) (Nat.le_trans h4 (by omega)))
 have PM2 := fun V v u hv hu => hid (l_Mul V v u q.num.natAbs p.den hv hu (Nat.le_trans h3 (by omega)) (Nat.le_trans h2 (by omega)))
 have lx := len_mul h1 h4
 have PC := fun V v u hv hu => hid (l_Cmp V v u (p.num.natAbs * q.den) (q.num.natAbs * p.den) hv hu (Nat.le_trans lx (by omega)))
 have bp := sgQ_bd p
 have bq := sgQ_bd q
 have bo := ordN_bd (p.num.natAbs * q.den) (q.num.natAbs * p.den)
 obtain ⟨Z, hZ⟩ : ∃ z, cmF p q = z := ⟨_, rfl⟩
 rw [hZ]
 unfold cmF at hZ
 obtain ⟨s1, hs1⟩ : ∃ z, sgQ p = z := ⟨_, rfl⟩
 obtain ⟨s2, hs2⟩ : ∃ z, sgQ q = z := ⟨_, rfl⟩
 obtain ⟨oc, hoc⟩ : ∃ z, ordN (p.num.natAbs * q.den) (q.num.natAbs * p.den) = z := ⟨_, rfl⟩
 rw [hs1] at PS1 bp hZ
 rw [hs2] at PS2 bq hZ
 rw [hoc] at PC bo hZ
 have HZ := hid hZ
 have HP := hid hp; have HQ := hid hq
 obtain ⟨N1, D1, rfl, hn1, hd1⟩ := hp.ex
 obtain ⟨N2, D2, rfl, hn2, hd2⟩ := hq.ex
 have HN1 := hid hn1; have HD1 := hid hd1; have HN2 := hid hn2; have HD2 := hid hd2
 obtain ⟨a1, c1, rfl, _⟩ := hn1.openI
 obtain ⟨a2, c2, rfl, _⟩ := hd1.openI
 obtain ⟨a3, c3, rfl, _⟩ := hn2.openI
 obtain ⟨a4, c4, rfl, _⟩ := hd2.openI
 obtain ⟨k1, hk1⟩ : ∃ k, (limbs p.num.natAbs).length = k := ⟨_, rfl⟩
 obtain ⟨k2, hk2⟩ : ∃ k, (limbs p.den).length = k := ⟨_, rfl⟩
 obtain ⟨k3, hk3⟩ : ∃ k, (limbs q.num.natAbs).length = k := ⟨_, rfl⟩
 obtain ⟨k4, hk4⟩ : ∃ k, (limbs q.den).length = k := ⟨_, rfl⟩
 obtain ⟨m1, hm1⟩ : ∃ m, decide (p.num < 0) = m := ⟨_, rfl⟩
 obtain ⟨m2, hm2⟩ : ∃ m, decide (q.num < 0) = m := ⟨_, rfl⟩
 rw [hk1] at HN1; rw [hk2] at HD1; rw [hk3] at HN2; rw [hk4] at HD2
 rw [hk1, hk2, hm1] at HP ⊢
 rw [hk3, hk4, hm2] at HQ ⊢
 have HM1 : Hid ((p.num < 0) ↔ m1 = true) := by rw [← hm1]; simp [Hid]
 clear hZ hk1 hk2 hk3 hk4 hm1 hm2 hn1 hn2 hd1 hd2 hp hq h1 h2 h3 h4 lx hs1 hs2 hoc
 have W12 : IntKind.i64.wrap (s1 - s2) = s1 - s2 := IntWalk.i64_in _ ⟨by omega, by omega⟩
 have WO : IntKind.i64.wrap (-oc) = -oc := IntWalk.i64_in _ ⟨by omega, by omega⟩
 clear bp bq bo
 go_enter Tryz.func42, Tryz.ntmps42
 go_wp2_with fail
 obtain ⟨W, hW⟩ : ∃ W, (w.alloc (.cells #[.bool m1, .slice a1 k1 c1, .slice a2 k2 c2] 57)).alloc (.cells #[.bool m2, .slice a3 k3 c3, .slice a4 k4 c4] 57) = W := ⟨_, rfl⟩
 have Y0 : Blk W w.heap.size #[.bool m1, .slice a1 k1 c1, .slice a2 k2 c2] 57 := by rw [← hW]; exact (Blk.new w _ _).alloc _
 have Y1 : Blk W (w.heap.size + 1) #[.bool m2, .slice a3 k3 c3, .slice a4 k4 c4] 57 := by rw [← hW]; exact Blk.made _ _ _ (by simp)
 have y0 : Below w.heap.size w W := by rw [← hW]; exact ((Below.refl _ _).alloc (Nat.le_refl _) _).alloc (by simp) _
 rw [hW]
 have KK : Hid (∀ w', Below W.heap.size W w' → w'.cell? ⟨w.heap.size, 0, none⟩ = some (.bool m1) ∧ w'.cell? ⟨w.heap.size, 1, none⟩ = some (.slice a1 k1 c1) ∧ w'.cell? ⟨w.heap.size, 2, none⟩ = some (.slice a2 k2 c2) ∧ w'.cell? ⟨w.heap.size + 1, 0, none⟩ = some (.bool m2) ∧ w'.cell? ⟨w.heap.size + 1, 1, none⟩ = some (.slice a3 k3 c3) ∧ w'.cell? ⟨w.heap.size + 1, 2, none⟩ = some (.slice a4 k4 c4)) := fun w' hb =>
  ⟨(Y0.call hb).cell 0, (Y0.call hb).cell 1, (Y0.call hb).cell 2, (Y1.call hb).cell 0, (Y1.call hb).cell 1, (Y1.call hb).cell 2⟩
 have Q1 := hid (HP.out.call y0); have Q2 := hid (HQ.out.call y0)
 have N1' := hid (HN1.out.call y0); have D1' := hid (HD1.out.call y0); have N2' := hid (HN2.out.call y0); have D2' := hid (HD2.out.call y0)
 have HY := hid y0
 clear Y0 Y1 y0 hW HN1 HD1 HN2 HD2 HP HQ
 refine held_plain [0, 2] 4 (fun w' => w'.cell? ⟨w.heap.size, 0, none⟩ = some (.bool m1) ∧ w'.cell? ⟨w.heap.size, 1, none⟩ = some (.slice a1 k1 c1) ∧ w'.cell? ⟨w.heap.size, 2, none⟩ = some (.slice a2 k2 c2) ∧ w'.cell? ⟨w.heap.size + 1, 0, none⟩ = some (.bool m2) ∧ w'.cell? ⟨w.heap.size + 1, 1, none⟩ = some (.slice a3 k3 c3) ∧ w'.cell? ⟨w.heap.size + 1, 2, none⟩ = some (.slice a4 k4 c4)) (by kernel_rfl) (by kernel_rfl) (by kernel_rfl) (by kernel_rfl) (KK.out _ (Below.refl _ _).drew) ?_
 iterate 2
  refine ⟨_, rfl, ?_⟩
  apply Exists.intro
  refine ⟨.inl ⟨by rfl, ?_⟩, ?_⟩
  ·(intro W' hW'; obtain ⟨q1, q2, q3, q4, q5, q6⟩ := hW'; go_simp; try (with_reducible rfl))
  (dsimp only [Act.put]; try simp only [List.setIfInBounds_toArray, List.set_cons_zero, List.set_cons_succ])
 refine held_one (i := 1) (by kernel_rfl) (by rfl) (by rfl) ?_
 go_wp2_with fail
 refine (PS1 _ _ (Q1.out.call (Below.refl _ _).drew)).out.mono ?_; rintro e w1 ⟨rfl, hb1⟩
 have x1 := hid (show Below W.heap.size W w1 from (Below.refl _ _).drew.trans hb1)
 clear hb1
 go_wp2_with fail
 refine ⟨KK.out _ x1.out, ?_⟩
 refine held_one (i := 3) (by kernel_rfl) (by rfl) (by rfl) ?_
 go_wp2_with fail
 refine (PS2 _ _ (Q2.out.call x1.out)).out.mono ?_; rintro e w2 ⟨rfl, hb2⟩
 have x2 := hid (bnext x1.out hb2)
 clear hb2
 go_wp2_with fail
 refine ⟨KK.out _ x2.out, ?_⟩
 refine held_more (is := [4, 5]) (g := 0) (by kernel_rfl) rfl (KK.out _ x2.out) (by kernel_rfl) ?_
 iterate 2
  refine ⟨_, rfl, ?_⟩
  apply Exists.intro
  refine ⟨.inl ⟨by rfl, ?_⟩, ?_⟩
  ·(intro W' hW'; obtain ⟨q1, q2, q3, q4, q5, q6⟩ := hW'; go_simp; try (with_reducible rfl))
  (dsimp only [Act.put]; try simp only [List.setIfInBounds_toArray, List.set_cons_zero, List.set_cons_succ])
 refine wpAnyH_done (by kernel_rfl) ?_ _
 simp only [Only]
 by_cases hne : s1 = s2
 ·subst hne
  have t0 : (s1 != s1) = false := by simp
  go_wp2_with fail
  refine held_plain [0, 1, 2, 3, 5, 6, 7, 8] 4 (fun w' => w'.cell? ⟨w.heap.size, 0, none⟩ = some (.bool m1) ∧ w'.cell? ⟨w.heap.size, 1, none⟩ = some (.slice a1 k1 c1) ∧ w'.cell? ⟨w.heap.size, 2, none⟩ = some (.slice a2 k2 c2) ∧ w'.cell? ⟨w.heap.size + 1, 0, none⟩ = some (.bool m2) ∧ w'.cell? ⟨w.heap.size + 1, 1, none⟩ = some (.slice a3 k3 c3) ∧ w'.cell? ⟨w.heap.size + 1, 2, none⟩ = some (.slice a4 k4 c4)) (by kernel_rfl) (by kernel_rfl) (by kernel_rfl) (by kernel_rfl) (KK.out _ x2.out.drew) ?_
  iterate 8
   refine ⟨_, rfl, ?_⟩
   apply Exists.intro
   refine ⟨.inl ⟨by rfl, ?_⟩, ?_⟩
   ·(intro W' hW'; obtain ⟨q1, q2, q3, q4, q5, q6⟩ := hW'; go_simp; try (with_reducible rfl))
   (dsimp only [Act.put]; try simp only [List.setIfInBounds_toArray, List.set_cons_zero, List.set_cons_succ])
  refine held_one (i := 4) (by kernel_rfl) (by rfl) (by rfl) ?_
  go_wp2_with fail
  refine (PM1 _ _ _ (N1'.out.call x2.out.drew) (D2'.out.call x2.out.drew)).out.mono ?_; rintro e w3 ⟨⟨v3, rfl, hv3⟩, hb3⟩
  have x3 := hid (show Below W.heap.size W w3 from bnext x2.out.drew hb3)
  have V3 := hid hv3
  clear hb3 hv3
  go_wp2_with fail
  refine ⟨KK.out _ x3.out, ?_⟩
  refine held_one (i := 9) (by kernel_rfl) (by rfl) (by rfl) ?_
  go_wp2_with fail
  refine (PM2 _ _ _ (N2'.out.call x3.out) (D1'.out.call x3.out)).out.mono ?_; rintro e w4 ⟨⟨v4, rfl, hv4⟩, hb4⟩
  have x4 := hid (bnext x3.out hb4)
  have V4 := hid hv4
  have V34 := hid (V3.out.call hb4)
  clear hb4 hv4
  go_wp2_with fail
  refine ⟨KK.out _ x4.out, ?_⟩
  refine held_one (i := 10) (by kernel_rfl) (by rfl) (by rfl) ?_
  go_wp2_with fail
  refine (PC _ _ _ V34.out V4.out).out.mono ?_; rintro e w5 ⟨rfl, hb5⟩
  have x5 := hid (bnext x4.out hb5)
  clear hb5
  go_wp2_with fail
  refine ⟨KK.out _ x5.out, ?_⟩
  refine held_more (is := [11]) (g := 0) (by kernel_rfl) rfl (KK.out _ x5.out) (by kernel_rfl) ?_
  iterate 1
   refine ⟨_, rfl, ?_⟩
   apply Exists.intro
   refine ⟨.inl ⟨by rfl, ?_⟩, ?_⟩
   ·(intro W' hW'; obtain ⟨q1, q2, q3, q4, q5, q6⟩ := hW'; go_simp; try (with_reducible rfl))
   (dsimp only [Act.put]; try simp only [List.setIfInBounds_toArray, List.set_cons_zero, List.set_cons_succ])
  refine wpAnyH_done (by kernel_rfl) ?_ _
  simp only [Only]
  obtain ⟨e0, e1, e2, e3, e4, e5⟩ := KK.out _ x5.out
  have yy := hid (bnext HY.out x5.out)
  cases m1
  ·go_wp2_with fail
   go_ret
   exact ⟨by rw [← HZ.out, if_neg (fun h => h rfl), if_neg (fun h => by have := HM1.out.1 h; simp at this)]; rfl, yy.out⟩
  ·go_wp2_with fail
   go_ret
   exact ⟨by rw [← HZ.out, if_neg (fun h => h rfl), if_pos (HM1.out.2 (by simp))]; rfl, yy.out⟩
 ·have t0 : (s1 != s2) = true := by simpa using hne
  have HNE := hid hne
  have yy := hid (bnext HY.out x2.out)
  clear hne
  go_wp2_with fail
  go_ret
  exact ⟨by rw [← HZ.out, if_pos HNE.out]; rfl, yy.out⟩
end Go.Proofs.YtlimaehdmcnjaaaGreatDoor
namespace Go.Proofs.YtlimaehdmcnjaaaGreatDoor
variable {α : Type}
def insAt (S : List α) (x : α) (j : Nat) : List α := S.take j ++ x :: S.drop j
theorem insAt_len (S : List α) (x : α) (j : Nat) : (insAt S x j).length = S.length + 1 := by
 unfold insAt
 rw [List.length_append, List.length_cons, List.length_take, List.length_drop]; omega
theorem insAt_top (S : List α) (x : α) : insAt S x S.length = S ++ [x] := by simp [insAt]
theorem insAt_full {S : List α} {x : α} {i : Nat} (h : S.length = i) : insAt S x i = S ++ [x] := by subst h; exact insAt_top S x
theorem insAt_self {S : List α} {x : α} {j : Nat} (h : j ≤ S.length) : (insAt S x j)[j]? = some x := by
 unfold insAt
 rw [List.getElem?_append_right (by rw [List.length_take]; omega), List.length_take, Nat.min_eq_left h, Nat.sub_self]; rfl
theorem insAt_below {S : List α} {x y : α} {j : Nat} (h : S[j]? = some y) : (insAt S x (j + 1))[j]? = some y := by
 have hj := (List.getElem?_eq_some_iff.1 h).1
 unfold insAt
 rw [List.getElem?_append_left (by rw [List.length_take]; omega), List.getElem?_take, if_pos (by omega)]; exact h
theorem insAt_swap {S : List α} {x y : α} {j : Nat} (h : S[j]? = some y) : ((insAt S x (j + 1)).set (j + 1) y).set j x = insAt S x j := by
 have hj := (List.getElem?_eq_some_iff.1 h).1
 unfold insAt
 have hl : (S.take (j + 1)).length = j + 1 := by rw [List.length_take]; omega
 have hd : S.drop j = y :: S.drop (j + 1) := by
  rw [List.drop_eq_getElem_cons hj]
  congr 1
  exact (List.getElem?_eq_some_iff.1 h).2
 rw [List.set_append_right _ _ (by omega), hl, Nat.sub_self, List.set_cons_zero, List.set_append_left _ _ (by omega), List.take_add_one, h, Option.toList_some,
  List.set_append_right _ _ (by rw [List.length_take]; omega), List.length_take, Nat.min_eq_left (by omega), Nat.sub_self, List.set_cons_zero, hd]
 simp
theorem takeWhile_all {p : α → Bool} : ∀ {a : List α} {b : List α}, (∀ e ∈ a, p e = true) → (∀ e r, b = e :: r → p e = false) → (a ++ b).takeWhile p = a ∧ (a ++ b).dropWhile p = b
 | [], b, _, hb => by
  cases b with
  | nil => simp
  | cons e r => simp [hb e r rfl]
 | x :: a, b, ha, hb => by
  have := takeWhile_all (a := a) (fun e he => ha e (by simp [he])) hb
  simp [ha x (by simp), this]
theorem insAt_end {key : α → Rat} {S : List α} {x : α} {j : Nat} (hj : j ≤ S.length) (h1 : ∀ e ∈ S.drop j, key e < key x) (h2 : ∀ i y, j = i + 1 → S[i]? = some y → ¬ key y < key x) : insAt S x j = insD key x S := by
 have hS : S.reverse = (S.drop j).reverse ++ (S.take j).reverse := by rw [← List.reverse_append, List.take_append_drop]
 obtain ⟨q1, q2⟩ := takeWhile_all (p := fun e => decide (key e < key x)) (a := (S.drop j).reverse) (b := (S.take j).reverse) (fun e he => decide_eq_true (h1 e (List.mem_reverse.1 he))) (fun e r he => by
  cases j with
  | zero => simp at he
  | succ i =>
   have hi : i < S.length := by omega
   have hy : S[i]? = some S[i] := List.getElem?_eq_getElem hi
   rw [List.take_add_one, hy, Option.toList_some, List.reverse_append] at he
   simp at he
   rw [← he.1]
   exact decide_eq_false (h2 i _ rfl hy))
 unfold insD insAt
 rw [hS, q1, q2, List.reverse_reverse, List.reverse_reverse]
theorem dsort_snoc (key : α → Rat) (l : List α) (x : α) : dsort key (l ++ [x]) = insD key x (dsort key l) := by
 unfold dsort
 rw [List.foldl_append]; rfl
theorem dsort_len (key : α → Rat) (l : List α) : (dsort key l).length = l.length := (dsort_perm key l).length_eq
def insI (key : α → Rat) (l : List α) (i j : Nat) (x : α) : List α := insAt (dsort key (l.take i)) x j ++ l.drop (i + 1)
theorem insI_len {key : α → Rat} {l : List α} {i j : Nat} {x : α} (hi : i < l.length) : (insI key l i j x).length = l.length := by
 unfold insI
 rw [List.length_append, insAt_len, dsort_len, List.length_take, List.length_drop]; omega
theorem insI_top {key : α → Rat} {l : List α} {i : Nat} {x : α} (h : l[i]? = some x) : insI key l i i x = dsort key (l.take i) ++ l.drop i := by
 have hi := (List.getElem?_eq_some_iff.1 h).1
 have hl : (dsort key (l.take i)).length = i := by rw [dsort_len, List.length_take]; omega
 have hd : l.drop i = x :: l.drop (i + 1) := by
  rw [List.drop_eq_getElem_cons hi]
  congr 1
  exact (List.getElem?_eq_some_iff.1 h).2
 unfold insI
 rw [insAt_full hl, hd]
 simp
theorem insI_self {key : α → Rat} {l : List α} {i j : Nat} {x : α} (hi : i < l.length) (hj : j ≤ i) : (insI key l i j x)[j]? = some x := by
 unfold insI
 have hl : (dsort key (l.take i)).length = i := by rw [dsort_len, List.length_take]; omega
 rw [List.getElem?_append_left (by rw [insAt_len]; omega)]
 exact insAt_self (by omega)
theorem insI_below {key : α → Rat} {l : List α} {i j : Nat} {x : α} (hi : i < l.length) (hj : j < i) : ∃ y, (dsort key (l.take i))[j]? = some y ∧ (insI key l i (j + 1) x)[j]? = some y ∧ ((insI key l i (j + 1) x).set (j + 1) y).set j x = insI key l i j x := by
 have hl : (dsort key (l.take i)).length = i := by rw [dsort_len, List.length_take]; omega
 obtain ⟨y, hy⟩ : ∃ y, (dsort key (l.take i))[j]? = some y := ⟨_, List.getElem?_eq_getElem (by omega)⟩
 refine ⟨y, hy, ?_, ?_⟩
 ·unfold insI
  rw [List.getElem?_append_left (by rw [insAt_len]; omega)]
  exact insAt_below hy
 ·unfold insI
  rw [List.set_append_left _ _ (by rw [insAt_len]; omega), List.set_append_left _ _ (by rw [List.length_set, insAt_len]; omega), insAt_swap hy]
theorem insI_end {key : α → Rat} {l : List α} {i j : Nat} {x : α} (h : l[i]? = some x) (hj : j ≤ i) (h1 : ∀ e ∈ (dsort key (l.take i)).drop j, key e < key x) (h2 : ∀ k y, j = k + 1 → (dsort key (l.take i))[k]? = some y → ¬ key y < key x) : insI key l i j x = dsort key (l.take (i + 1)) ++ l.drop (i + 1) := by
 have hi := (List.getElem?_eq_some_iff.1 h).1
 have hl : (dsort key (l.take i)).length = i := by rw [dsort_len, List.length_take]; omega
 unfold insI
 rw [insAt_end (by omega) h1 h2, List.take_add_one, h, Option.toList_some, dsort_snoc]
theorem drop_step {key : α → Rat} {S : List α} {x y : α} {j : Nat} (hy : S[j]? = some y) (h : key y < key x) (h1 : ∀ e ∈ S.drop (j + 1), key e < key x) : ∀ e ∈ S.drop j, key e < key x := by
 have hj := (List.getElem?_eq_some_iff.1 hy).1
 have hd : S.drop j = y :: S.drop (j + 1) := by
  rw [List.drop_eq_getElem_cons hj]
  congr 1
  exact (List.getElem?_eq_some_iff.1 hy).2
 rw [hd]
 intro e he
 rcases List.mem_cons.1 he with rfl | he
 ·exact h
 ·exact h1 e he
end Go.Proofs.YtlimaehdmcnjaaaGreatDoor
namespace Go.Proofs.YtlimaehdmcnjaaaGreatDoor
open Go.RowKit
open Go.Shelf
open Go.Lib (decDigits nDigits)
theorem QL.cells {W : World} {cs : List (List Value)} {qs : List Rat} (h : QL .u64 W cs qs) : (∀ u ∈ cs.flatten, u.oneCell' = true) ∧ NoKL .u64 cs.flatten := by
 have key : ∀ u ∈ cs.flatten, (∃ b, u = .bool b) ∨ ∃ a n c, u = .slice a n c := by
  intro u hu
  rw [List.mem_flatten] at hu
  obtain ⟨c, h1, h2⟩ := hu
  obtain ⟨i, hi⟩ := List.getElem?_of_mem h1
  obtain ⟨q, hq⟩ : ∃ q, qs[i]? = some q := ⟨_, List.getElem?_eq_getElem (by rw [← h.len]; exact (List.getElem?_eq_some_iff.1 hi).1)⟩
  obtain ⟨d, e1, e2⟩ := h.at_ i q hq
  rw [hi] at e1
  obtain rfl := Option.some.inj e1
  obtain ⟨a, n, p, b, n', p', rfl, -⟩ := e2.ex
  simp at h2
  rcases h2 with rfl | rfl | rfl
  ·exact .inl ⟨_, rfl⟩
  ·exact .inr ⟨_, _, _, rfl⟩
  ·exact .inr ⟨_, _, _, rfl⟩
 refine ⟨fun u hu => ?_, fun x hx => ?_⟩
 ·rcases key u hu with ⟨b, rfl⟩ | ⟨a, n, c, rfl⟩ <;> rfl
 ·rcases key _ hx with ⟨b, e⟩ | ⟨a, n, c, e⟩ <;> cases e
theorem eql_nilV (g n c : Nat) (W : World) : (binOp BinOp.eql 53 (.slice (some ⟨g, 0, none⟩) n c) (.slice none 0 0)).run Tryz.prog W = .ok (.bool false) W := by kernel_rfl
theorem s_Clone (w : World) (B : Nat) (v : Value) (qs : List Rat) (hv : VRow B w v qs) (hl : qs.length ≤ 64) (h0 : 0 < qs.length) :
 Calls Tryz.prog 39 #[v] w fun e w' => (∃ u, e = .returned u ∧ VRow w.heap.size w' u qs) ∧ Below w.heap.size w w' := by
 obtain ⟨i0, hi, hz0, hz1, hz2⟩ := info_parts info_fr
 obtain ⟨q0, hq0⟩ : ∃ q, qs[0]? = some q := ⟨_, List.getElem?_eq_getElem h0⟩
 obtain ⟨a, c, rfl, c1, c2⟩ := hv.slice
 obtain ⟨g, -, -, -, -, -, -, -, rfl, -, hg, -⟩ := hv.at hq0
 obtain ⟨N, hN⟩ : ∃ n, qs.length = n := ⟨_, rfl⟩
 obtain ⟨cs, hk, hQ⟩ := hv.ex
 have hcl : cs.length = N := by rw [hQ.len, hN]
 rw [hN] at hk c1 ⊢
 have A0 := hid ((Below.refl w.heap.size w).alloc (Nat.le_refl _) (.cells #[] 57))
 have X0 := Blk.new w #[] 57
 have HE : Hid (KRow .u64 57 3 w.heap.size (w.alloc (.cells #[] 57)) (.slice (some ⟨w.heap.size, 0, none⟩) 0 0) []) := by
  refine ⟨World.ownsRow_made w #[] 0 (Nat.le_refl _) (by unfold maxLen; omega) rfl, fun c hc => (by cases hc), fun g' hg' => ?_⟩
  obtain rfl : w.heap.size = g' := by simpa [Value.ownBlock] using hg'
  exact ⟨_, X0, fun i x h => by simp at h⟩
 have hc := hQ.cells
 have SRC := hid (show ∀ j u, cs.flatten[j]? = some u → (w.alloc (.cells #[] 57)).cell? ((⟨g, 0, none⟩ : Addr).add j) = some u from fun j u hu => by
  have h := hk.own.cells rfl j u hu
  rw [Addr.add_lit] at h ⊢
  exact (A0.out.cell (p := ⟨g, 0 + j, none⟩) hg).trans h)
 have HC1 := hid hc.1; have HC2 := hid hc.2; have HAL := hid hk.all; have HQ := hid (hQ.call A0.out); have HCL := hid hcl; have HN4 := hid (show N ≤ 64 by omega)
 clear hv hl h0 hq0 hk hQ hc X0 hg hN hcl
 have hnil := eql_nilV g N c
 go_enter Tryz.func39, Tryz.ntmps39
 go_wp2_with (at_builtin; refine wpList_append_krow _ .u64 rfl _ _ 53 rfl w.heap.size 57 i0 (.agg #[.bool false, .slice none 0 0, .slice none 0 0]) 3 56 Tryz.underlying53 hi hz0 hz1 hz2 rfl (by decide) noz_fr _ [] rfl HE.out ⟨g, 0, none⟩ N c cs rfl HCL.out HAL.out SRC.out HC1.out HC2.out (by have := HN4.out; simp; unfold maxLen; omega) (by have := HN4.out; simp; omega) (by exact A0.out.size) ?_
              intro v' w3 hown hgrow hkeep hat
              have O3 := hid (show VRow w.heap.size w3 v' qs from ⟨cs, hown, HQ.out.keep hkeep⟩)
              have B3 := hid (krow_below HE.out A0.out hgrow)
              clear hown hgrow hkeep hat)
 go_ret
 exact ⟨⟨_, rfl, O3.out⟩, B3.out⟩
theorem cmF_lt {p q : Rat} : cmF p q < 0 ↔ p < q := (cmF_sign p q).2.1.trans ordQ_lt_iff
theorem cmF_le {p q : Rat} : cmF p q ≤ 0 ↔ p ≤ q := by
 have h := (cmF_sign p q).1
 have h2 : cmF p q ≤ 0 ↔ ordQ p q ≤ 0 := by omega
 exact h2.trans ordQ_le_iff
theorem s_less (w : World) (v u : Value) (p q : Rat) (hv : IsQ .u64 w v p) (hu : IsQ .u64 w u q) (lp : Lim p) (lq : Lim q) :
 Calls Tryz.prog 41 #[v, u] w fun e w' => e = .returned (.int .i64 (cmF q p)) ∧ Below w.heap.size w w' := by
 obtain ⟨m1, a1, n1, c1, b1, d1, e1, rfl⟩ := hv.qv
 obtain ⟨m2, a2, n2, c2, b2, d2, e2, rfl⟩ := hu.qv
 have A1 := hid ((Below.refl w.heap.size w).alloc (Nat.le_refl _) (.cells #[.bool m1, .slice a1 n1 c1, .slice b1 d1 e1] 57))
 have A2 := hid (A1.out.alloc A1.out.size (.cells #[.bool m2, .slice a2 n2 c2, .slice b2 d2 e2] 57))
 have V2 := hid (hv.call A2.out); have U2 := hid (hu.call A2.out)
 have HC := fun V x y hx hy => hid (f_Cmp V x y q p hx hy lq.1 lq.2 lp.1 lp.2)
 obtain ⟨z, hz⟩ : ∃ z, cmF q p = z := ⟨_, rfl⟩
 rw [hz] at HC ⊢
 clear hv hu lp lq hz
 go_enter Tryz.func41, Tryz.ntmps41
 go_wp2_with fail
 refine (HC _ _ _ U2.out V2.out).out.mono ?_; rintro e w1 ⟨rfl, hb1⟩
 have y1 := hid (A2.out.trans (hb1.mono A2.out.size))
 clear hb1
 go_wp2_with fail
 go_ret
 exact ⟨rfl, y1.out⟩
end Go.Proofs.YtlimaehdmcnjaaaGreatDoor
namespace Go.Proofs
open Go.Shelf
def Tryz.lenW_ren : Go.Shelf.Ren := ⟨fun | 125 => 93 | 128 => 141 | 129 => 142 | n => n, fun | 46 => 118 | 3 => 3 | 51 => 161 | 53 => 122 | 4 => 4 | 5 => 5 | 9 => 9 | n => n, fun | n => n⟩
theorem Tryz.lenW : Go.Proofs.Lays.n125 Tryz.prog Tryz.lenW_ren := {
 mixed := by kernel_rfl
 f125 := Tryz.func93.trans (congrArg some (by kernel_rfl))
 f128 := Tryz.func141.trans (congrArg some (by kernel_rfl))
 f129 := Tryz.func142.trans (congrArg some (by kernel_rfl))
 t3 := Tryz.underlying3
 a3 := Tryz.isAgg3
 z3 := Tryz.sizeOf3
 v3 := Tryz.zeroValue3
 t4 := Tryz.underlying4
 a4 := Tryz.isAgg4
 z4 := Tryz.sizeOf4
 v4 := Tryz.zeroValue4
 t5 := Tryz.underlying5
 a5 := Tryz.isAgg5
 z5 := Tryz.sizeOf5
 v5 := Tryz.zeroValue5
 t9 := Tryz.underlying9
 a9 := Tryz.isAgg9
 z9 := Tryz.sizeOf9
 v9 := Tryz.zeroValue9
 t46 := Tryz.underlying118
 a46 := Tryz.isAgg118
 z46 := Tryz.sizeOf118
 v46 := Tryz.zeroValue118
 t51 := Tryz.underlying161
 a51 := Tryz.isAgg161
 z51 := Tryz.sizeOf161
 v51 := Tryz.zeroValue161
 t53 := Tryz.underlying122
 a53 := Tryz.isAgg122
 z53 := Tryz.sizeOf122
 v53 := Tryz.zeroValue122 }
end Go.Proofs
namespace Go.Proofs.YtlimaehdmcnjaaaGreatDoor
open Go.RowKit
variable {P : Program} {Q : Exit → Act → World → Prop} {md : Region.Mode} {ops : Array Oper} {oz : Oper}
inductive Dep (md : Region.Mode) (ops : Array Oper) (oz : Oper) : Nat → Prop
 | here {e : Edge} : e ∈ oz.after → Region.binds md e = true → Dep md ops oz e.on
 | step {i : Nat} {o : Oper} {f : Edge} : Dep md ops oz i → ops[i]? = some o → f ∈ o.after → Region.binds md f = true → Dep md ops oz f.on
theorem Dep.on {listed : Array Bool} (hc : Closed md ops listed) (h : ∀ e ∈ oz.after, Region.binds md e = true → listed.getD e.on false = true) {i : Nat} (hd : Dep md ops oz i) : listed.getD i false = true := by
 induction hd with
 | here he hb => exact h _ he hb
 | step _ ho hf hb ih => exact hc _ _ ho ih _ hf hb
theorem ready_push_some2 {L0 : List Nat} (hz : ∀ e ∈ oz.after, Region.binds md e = true → e.on < ops.size) (hz2 : ∀ i, i < ops.size → i ∈ L0 ∨ Dep md ops oz i) (hfwd : ∀ i o, ops[i]? = some o → ∀ e ∈ o.after, Region.binds md e = true → e.on < i) {listed : Array Bool} (hs : listed.size = ops.size) (hcl : Closed md ops listed) (h0L : ∀ i ∈ L0, listed.getD i false = true) (hn : ¬ AllOn ops.size listed) :
 ∀ j, j ∈ Region.ready md (ops.push oz) (listed.push false) → j ∈ Region.ready md ops listed := by
 intro j hj
 rw [mem_ready] at hj ⊢
 obtain ⟨h0, o, ho, hall⟩ := hj
 have hlt : j < ops.size + 1 := by have := (Array.getElem?_eq_some_iff.1 ho).1; simpa using this
 by_cases hj' : j = ops.size
 ·subst hj'
  have : o = oz := by simpa using ho.symm
  subst this
  refine absurd (fun i hi => ?_) hn
  rcases hz2 i hi with h | h
  ·exact h0L i h
  ·refine Dep.on hcl (fun e he hb => ?_) h
   have h1 := hall e he hb
   have h2 := hz e he hb
   rwa [getD_push_lt (by omega)] at h1
 ·have hjl : j < ops.size := by omega
  rw [Array.getElem?_push_lt hjl] at ho
  rw [getD_push_lt (by omega)] at h0
  refine ⟨h0, o, by rw [Array.getElem?_eq_getElem hjl]; exact ho, fun e he hb => ?_⟩
  have h1 := hall e he hb
  have h2 := hfwd j o (by rw [Array.getElem?_eq_getElem hjl]; exact ho) e he hb
  rwa [getD_push_lt (by omega)] at h1
theorem wpAny_last2 {Q' : Exit → Act → World → Prop} {L0 : List Nat} (hgd : ∀ (i : Nat) (o : Oper), ops[i]? = some o → o.guard = none) (hgz : oz.guard = none)
 (hz : ∀ e ∈ oz.after, Region.binds md e = true → e.on < ops.size) (hz2 : ∀ i, i < ops.size → i ∈ L0 ∨ Dep md ops oz i)
 (hfwd : ∀ i o, ops[i]? = some o → ∀ e ∈ o.after, Region.binds md e = true → e.on < i)
 (hP : ∀ c a w, Q' (.panic c) a w → Q (.panic c) a w) (hL : LetsOut Q' → LetsOut Q) (hN : ∀ a w, Q' .normal a w → oz.wp P a w (fun a w => Q .normal a w) Q ∨ (oz.asks P a w ∧ LetsOut Q)) :
 ∀ (fuel : Nat) (listed : Array Bool) (a : Act) (w : World), listed.size = ops.size → Closed md ops listed → (∀ i ∈ L0, listed.getD i false = true) → wpAny P md ops Q' fuel listed a w → wpAny P md (ops.push oz) Q (fuel + 1) (listed.push false) a w := by
 have lastStep : ∀ (fuel : Nat) (listed : Array Bool) (a : Act) (w : World), listed.size = ops.size → AllOn ops.size listed → Q' .normal a w → wpAny P md (ops.push oz) Q (fuel + 1) (listed.push false) a w := by
  intro fuel listed a w hs hall hq
  have hmem : ops.size ∈ Region.ready md (ops.push oz) (listed.push false) := by
   rw [mem_ready]
   refine ⟨by rw [← hs]; simp [Array.getD], oz, by simp, fun e he hb => ?_⟩
   have := hz e he hb
   rw [getD_push_lt (by omega)]
   exact hall _ this
  refine ⟨fun h => (by rw [h] at hmem; cases hmem), fun j hj => ?_⟩
  have hje := ready_push_all hs hall j hj
  subst hje
  have hdone : Region.ready md (ops.push oz) ((listed.push false).setIfInBounds ops.size true) = [] := by
   refine List.eq_nil_iff_forall_not_mem.2 fun k hk => ?_
   rw [mem_ready] at hk
   obtain ⟨h0, o, ho, _⟩ := hk
   have hlt : k < ops.size + 1 := by have := (Array.getElem?_eq_some_iff.1 ho).1; simpa using this
   by_cases hk' : k = ops.size
   ·subst hk'; simp [Array.getD, hs] at h0
   ·have h1 : k < ops.size := by omega
    have h2 := hall k h1
    have h3 : k < listed.size := by omega
    simp [Array.getD, h3, Nat.lt_succ_of_lt h3, Ne.symm hk', Array.getElem_push_lt h3] at h0 h2
    rw [h0] at h2; cases h2
  unfold wpOp
  simp only [Array.getElem?_push_size]
  have hw : Region.wanted oz (yielded (ops.push oz) a.tmps) = true := by simp [Region.wanted, hgz]
  rw [if_pos hw]
  refine (hN a w hq).imp (fun hx => Oper.wp_mono (fun a' w' h' => ?_) hx) id
  cases fuel with
  | zero => exact ⟨hdone, h'⟩
  | succ fuel => exact ⟨fun _ => h', fun k hk => by rw [hdone] at hk; cases hk⟩
 intro fuel
 induction fuel with
 | zero =>
  intro listed a w hs _ _ h
  exact lastStep 0 listed a w hs (all_of_none hfwd hs h.1) h.2
 | succ fuel ih =>
  intro listed a w hs hcl h0L h
  by_cases hall : AllOn ops.size listed
  ·refine lastStep (fuel + 1) listed a w hs hall (h.1 (List.eq_nil_iff_forall_not_mem.2 fun k hk => ?_))
   rw [mem_ready] at hk
   obtain ⟨h0, o, ho, _⟩ := hk
   have h1 := (Array.getElem?_eq_some_iff.1 ho).1
   have h2 := hall k h1
   have h3 : k < listed.size := by omega
   simp [Array.getD, h3] at h0 h2
   rw [h0] at h2; cases h2
  ·refine ⟨fun hr => ?_, fun j hj => ?_⟩
   ·have : Region.ready md ops listed = [] := List.eq_nil_iff_forall_not_mem.2 fun k hk => by
     have hk2 : k ∈ Region.ready md (ops.push oz) (listed.push false) := by
      rw [mem_ready] at hk ⊢
      obtain ⟨h0, o, ho, hh⟩ := hk
      have h1 := (Array.getElem?_eq_some_iff.1 ho).1
      refine ⟨by rw [getD_push_lt (by omega)]; exact h0, o, by rw [Array.getElem?_push_lt h1, ← Array.getElem?_eq_getElem h1]; exact ho, fun e he hb => ?_⟩
      rw [getD_push_lt (by have := hfwd k o ho e he hb; omega)]
      exact hh e he hb
     rw [hr] at hk2; cases hk2
    exact absurd (all_of_none hfwd hs this) hall
   ·have hj' := ready_push_some2 hz hz2 hfwd hs hcl h0L hall j hj
    have h1 := h.2 j hj'
    have hlt : j < ops.size := by
     rw [mem_ready] at hj'
     obtain ⟨_, o, ho, _⟩ := hj'
     exact (Array.getElem?_eq_some_iff.1 ho).1
    unfold wpOp at h1 ⊢
    rw [Array.getElem?_push_lt hlt]
    rw [Array.getElem?_eq_getElem hlt] at h1
    simp only at h1 ⊢
    have hg := hgd j _ (Array.getElem?_eq_getElem hlt)
    have hw1 : Region.wanted ops[j] (yielded (ops.push oz) a.tmps) = true := by simp [Region.wanted, hg]
    have hw2 : Region.wanted ops[j] (yielded ops a.tmps) = true := by simp [Region.wanted, hg]
    rw [if_pos hw1]
    rw [if_pos hw2] at h1
    rcases h1 with h1 | ⟨h1, h2⟩
    ·refine .inl (wp_turn (fun a' w' h' => ?_) hP hL h1)
     rw [set_push (by omega)]
     exact ih _ _ _ (by simp [hs]) (hcl.set hj') (fun i hi => getD_set_true (h0L i hi)) h'
    ·exact .inr ⟨h1, hL h2⟩
def edgeB (md : Region.Mode) (ops : Array Oper) (j i : Nat) : Bool := match ops[j]? with | some o => o.after.toList.any (fun f => Region.binds md f && f.on == i) | none => false
theorem edgeB_spec {j i : Nat} (h : edgeB md ops j i = true) : ∃ o f, ops[j]? = some o ∧ f ∈ o.after ∧ Region.binds md f = true ∧ f.on = i := by
 unfold edgeB at h
 split at h
 ·rename_i o ho
  simp only [List.any_eq_true, Bool.and_eq_true, beq_iff_eq, Array.mem_toList_iff] at h
  obtain ⟨f, hf, hb, hon⟩ := h
  exact ⟨o, f, ho, hf, hb, hon⟩
 ·cases h
def viaB (md : Region.Mode) (ops : Array Oper) (known : List Nat) : List (Nat × Nat) → List Nat
 | [] => known
 | (i, j) :: r => viaB md ops (if (known.contains j && edgeB md ops j i) = true then i :: known else known) r
theorem viaB_dep : ∀ (r : List (Nat × Nat)) (known : List Nat), (∀ i ∈ known, Dep md ops oz i) → ∀ i ∈ viaB md ops known r, Dep md ops oz i
 | [], known, h => h
 | (i, j) :: r, known, h => by
  unfold viaB
  refine viaB_dep r _ ?_
  by_cases hc : (known.contains j && edgeB md ops j i) = true
  ·rw [if_pos hc]
   simp only [Bool.and_eq_true] at hc
   obtain ⟨hj, hx⟩ := hc
   obtain ⟨o, f, ho, hf, hb, hon⟩ := edgeB_spec hx
   intro m hm
   rcases List.mem_cons.1 hm with rfl | hm
   ·rw [← hon]
    exact .step (h j (by simpa using hj)) ho hf hb
   ·exact h m hm
  ·rw [if_neg hc]
   exact h
def splitB2 (md : Region.Mode) (ops : Array Oper) (oz : Oper) (L0 : List Nat) (via : List (Nat × Nat)) : Bool :=
 ops.toList.all (fun o => o.guard.isNone) && oz.guard.isNone && oz.after.toList.all (fun e => !Region.binds md e || decide (e.on < ops.size)) &&
 (List.range ops.size).all (fun i => L0.contains i || (viaB md ops ((oz.after.toList.filter (Region.binds md)).map (·.on)) via).contains i) &&
 (List.range ops.size).all (fun i => match ops[i]? with | some o => o.after.toList.all (fun e => !Region.binds md e || decide (e.on < i)) | none => true)
theorem one_last2 {Q' : Exit → Act → World → Prop} {L0 : List Nat} {via : List (Nat × Nat)} {a : Act} {w : World} {fuel : Nat} {listed : Array Bool} (hB : splitB2 md ops oz L0 via = true) (hs : listed.size = ops.size) (hcl : Closed md ops listed) (h0L : ∀ i ∈ L0, listed.getD i false = true)
 (hP : ∀ c a w, Q' (.panic c) a w → Q (.panic c) a w) (hL : LetsOut Q' → LetsOut Q) (hN : ∀ a w, Q' .normal a w → oz.wp P a w (fun a w => Q .normal a w) Q ∨ (oz.asks P a w ∧ LetsOut Q))
 (h : wpAny P md ops Q' fuel listed a w) : wpAny P md (ops.push oz) Q (fuel + 1) (listed.push false) a w := by
 simp only [splitB2, Bool.and_eq_true, List.all_eq_true, List.mem_range, decide_eq_true_eq, Option.isNone_iff_eq_none, Array.mem_toList_iff, Bool.or_eq_true, Bool.not_eq_true'] at hB
 obtain ⟨⟨⟨⟨h1, h2⟩, h3⟩, h4⟩, h5⟩ := hB
 refine wpAny_last2 (L0 := L0) (fun i o ho => h1 o (Array.mem_of_getElem? ho)) h2 (fun e he hb => ?_) (fun i hi => ?_) (fun i o ho e he hb => ?_) hP hL hN fuel listed a w hs hcl h0L h
 ·rcases h3 e he with h | h
  ·rw [hb] at h; cases h
  ·exact h
 ·rcases h4 i hi with h | h
  ·exact .inl (by simpa using h)
  ·refine .inr (viaB_dep via _ (fun j hj => ?_) i (by simpa using h))
   obtain ⟨e, he, rfl⟩ := List.mem_map.1 hj
   obtain ⟨he1, he2⟩ := List.mem_filter.1 he
   exact .here (by simpa using he1) he2
 ·have := h5 i (Array.getElem?_eq_some_iff.1 ho).1
  rw [ho] at this
  simp only [List.all_eq_true, Array.mem_toList_iff, Bool.or_eq_true, Bool.not_eq_true', decide_eq_true_eq] at this
  rcases this e he with h | h
  ·rw [hb] at h; cases h
  ·exact h
def lastsB2 (l : List Oper) (L0 : List Nat) (via : List (Nat × Nat)) : Nat → Nat → Bool
 | 0, _ => true
 | k + 1, n => (match l[n]? with | some oz => splitB2 .any (l.take n).toArray oz L0 via | none => false) && lastsB2 l L0 via k (n + 1)
def closedB (md : Region.Mode) (ops : Array Oper) (listed : Array Bool) : Bool :=
 (List.range ops.size).all fun j => !listed.getD j false || (match ops[j]? with | some o => o.after.toList.all (fun e => !Region.binds md e || listed.getD e.on false) | none => true)
theorem closedB_spec {listed : Array Bool} (h : closedB md ops listed = true) : Closed md ops listed := by
 intro j o ho hj e he hb
 simp only [closedB, List.all_eq_true, List.mem_range, Bool.or_eq_true, Bool.not_eq_true'] at h
 rcases h j (Array.getElem?_eq_some_iff.1 ho).1 with h1 | h1
 ·rw [hj] at h1; cases h1
 ·rw [ho] at h1
  simp only [List.all_eq_true, Array.mem_toList_iff, Bool.or_eq_true, Bool.not_eq_true'] at h1
  rcases h1 e he with h2 | h2
  ·rw [hb] at h2; cases h2
  ·exact h2
theorem Closed.pushed {listed : Array Bool} (h : Closed md ops listed) (hs : listed.size = ops.size) (hfwd : ∀ i o, ops[i]? = some o → ∀ e ∈ o.after, Region.binds md e = true → e.on < i) : Closed md (ops.push oz) (listed.push false) := by
 intro j o ho hj e he hb
 have hlt : j < ops.size + 1 := by have := (Array.getElem?_eq_some_iff.1 ho).1; simpa using this
 by_cases hj2 : j = ops.size
 ·subst hj2
  exfalso
  simp [Array.getD, ← hs] at hj
 ·have h1 : j < ops.size := by omega
  rw [Array.getElem?_push_lt h1] at ho
  rw [getD_push_lt (by omega)] at hj
  have ho' : ops[j]? = some o := by rw [Array.getElem?_eq_getElem h1]; exact ho
  have h2 := hfwd j o ho' e he hb
  rw [getD_push_lt (by omega)]
  exact h j o ho' hj e he hb
theorem any_lasts2 (l : List Oper) (L0 : List Nat) (via : List (Nat × Nat)) {a : Act} {w : World} : ∀ (k n fuel : Nat) (listed : Array Bool), n + k = l.length → lastsB2 l L0 via k n = true → listed.size = (l.take n).toArray.size → Closed .any (l.take n).toArray listed → (∀ i ∈ L0, listed.getD i false = true) →
 wpAny P .any (l.take n).toArray (ThenL P l.toArray Q (l.drop n)) fuel listed a w →
 wpAny P .any l.toArray Q (fuel + k) (listed ++ Array.replicate k false) a w
 | 0, n, fuel, listed, hn, _, hs, hc, h0, h => by
  have e1 : l.take n = l := List.take_of_length_le (by omega)
  have e2 : l.drop n = [] := List.drop_of_length_le (by omega)
  have e3 : ThenL P l.toArray Q [] = Q := by
   funext e a w
   cases e <;> simp [ThenL, wpList]
  rw [e1, e2, e3] at h
  simpa using h
 | k + 1, n, fuel, listed, hn, hB, hs, hc, h0, h => by
  simp only [lastsB2, Bool.and_eq_true] at hB
  obtain ⟨h1, h2⟩ := hB
  have hlt : n < l.length := by omega
  rw [List.getElem?_eq_getElem hlt] at h1
  have e1 : l.take (n + 1) = l.take n ++ [l[n]] := List.take_succ_eq_append_getElem hlt
  have e2 : l.drop n = l[n] :: l.drop (n + 1) := List.drop_eq_getElem_cons hlt
  have e3 : (l.take (n + 1)).toArray = (l.take n).toArray.push l[n] := by rw [e1]; simp
  have h1' := h1
  simp only [splitB2, Bool.and_eq_true, List.all_eq_true, List.mem_range, Option.isNone_iff_eq_none, Array.mem_toList_iff, Bool.or_eq_true, Bool.not_eq_true', decide_eq_true_eq] at h1'
  have hgz : l[n].guard = none := h1'.1.1.1.2
  have hfwd : ∀ (i : Nat) (o : Oper), (l.take n).toArray[i]? = some o → ∀ e ∈ o.after, Region.binds .any e = true → e.on < i := by
   intro i o ho e he hb
   have := h1'.2 i (Array.getElem?_eq_some_iff.1 ho).1
   rw [ho] at this
   simp only [List.all_eq_true, Array.mem_toList_iff, Bool.or_eq_true, Bool.not_eq_true', decide_eq_true_eq] at this
   rcases this e he with h | h
   ·rw [hb] at h; cases h
   ·exact h
  have step := one_last2 (P := P) (md := .any) (ops := (l.take n).toArray) (oz := l[n]) (Q := ThenL P l.toArray Q (l.drop (n + 1))) (Q' := ThenL P l.toArray Q (l.drop n)) (L0 := L0) (via := via) (a := a) (w := w) (fuel := fuel) (listed := listed) h1 hs hc h0 (fun _ _ _ h => h) (fun ⟨a, w, h⟩ => ⟨a, w, h⟩) (fun a w hq => by
   have hq' : wpList P l.toArray Q (l.drop n) a w := hq
   rw [e2] at hq'
   unfold wpList at hq'
   have hw : Region.wanted l[n] (yielded l.toArray a.tmps) = true := by simp [Region.wanted, hgz]
   rw [if_pos hw] at hq'
   rcases hq' with hq' | ⟨h3, h4⟩
   ·exact .inl (wp_turn (fun _ _ h => h) (fun _ _ _ h => h) (fun ⟨a, w, h⟩ => ⟨a, w, h⟩) hq')
   ·exact .inr ⟨h3, by obtain ⟨a, w, h⟩ := h4; exact ⟨a, w, h⟩⟩) h
  rw [← e3] at step
  have := any_lasts2 l L0 via k (n + 1) (fuel + 1) (listed.push false) (by omega) h2 (by rw [e3, Array.size_push, Array.size_push, hs]) (by rw [e3]; exact hc.pushed hs hfwd) (fun i hi => by
   have hx := h0 i hi
   by_cases hi2 : i < listed.size
   ·rw [getD_push_lt hi2]; exact hx
   ·simp [Array.getD, hi2] at hx) step
  have e5 : listed.push false ++ Array.replicate k false = listed ++ Array.replicate (k + 1) false := by
   apply Array.ext_getElem?
   intro i
   simp only [Array.getElem?_append, Array.getElem?_push, Array.size_push, Array.getElem?_replicate]
   by_cases h1 : i < listed.size
   ·have h2 : i < listed.size + 1 := by omega
    have h3 : ¬ i = listed.size := by omega
    simp [h1, h2, h3]
   ·by_cases h2 : i = listed.size
    ·subst h2; simp
    ·have h3 : ¬ i < listed.size + 1 := by omega
     simp [h1, h3]
     have e : i - (listed.size + 1) < k ↔ i - listed.size < k + 1 := by omega
     simp [e]
  rw [e5] at this
  rw [show fuel + (k + 1) = fuel + 1 + k by omega]
  exact this
theorem wpPick_mono {l : List Oper} {S : World → Prop} {L L' : Act → Prop} (hL : ∀ a, L a → L' a) : ∀ (is : List Nat) (a : Act), wpPick P l S L is a → wpPick P l S L' is a
 | [], a, h => hL a h
 | i :: is, a, ⟨o, ho, v, hy, h⟩ => ⟨o, ho, v, hy, wpPick_mono hL is _ h⟩
theorem held_true : ∀ (fuel : Nat) (listed : Array Bool) (a : Act) (w : World), wpAny P md ops Q fuel listed a w → wpAnyH P md ops Q (fun _ => True) fuel listed a w := by
 intro fuel
 induction fuel with
 | zero => exact fun _ _ _ h => h
 | succ fuel ih =>
  rintro listed a w ⟨h1, h2⟩
  refine ⟨h1, fun i hi => ?_⟩
  have h := h2 i hi
  unfold wpOp at h ⊢
  split at h
  ·rename_i ho
   exact ⟨trivial, ih _ _ _ h⟩
  ·rename_i o ho
   split at h
   ·rename_i hw
    rw [if_pos hw]
    exact h.imp (fun h => Oper.wp_mono (fun a w h => ⟨trivial, ih _ _ _ h⟩) h) id
   ·rename_i hw
    rw [if_neg hw]
    exact ⟨trivial, ih _ _ _ h⟩
theorem held_lasts2 {id : Nat} {a : Act} {w : World} {l : List Oper} (n k : Nat) (pre : List Nat) (via : List (Nat × Nat)) (is : List Nat) (g : Nat) (S : World → Prop) (hm : P.follows .mixedOrders = true) (hk : n + k = l.length)
 (hsel0 : Region.noSelect l.toArray = true) (hpre : pickB .any l.toArray pre (Array.replicate l.toArray.size false) = true)
 (hlast : lastsB2 l pre via k n = true) (hset : setL pre (Array.replicate l.toArray.size false) = setL pre (Array.replicate n false) ++ Array.replicate k false) (hsz : (setL pre (Array.replicate n false)).size = (l.take n).toArray.size) (hclo : closedB .any (l.take n).toArray (setL pre (Array.replicate n false)) = true) (hon : (pre.all fun i => (setL pre (Array.replicate n false)).getD i false) = true)
 (hsel : Region.noSelect (l.take n).toArray = true) (hg : g + is.length + k + pre.length = l.toArray.size) (hB : pickB .any (l.take n).toArray is (setL pre (Array.replicate n false)) = true) (hS : S w.drew)
 (h : wpPick P l (fun _ => True) (fun a1 => wpPick P (l.take n) S (fun a' => wpAnyH P .any (l.take n).toArray (Only (ThenL P l.toArray (Only Q) (l.drop n))) S g (setL is (setL pre (Array.replicate n false))) a' w.drew) is a1) pre a) : (Code.region id l.toArray true).wp P Q a w := by
 refine wp_region_any hm (only_any _ _ _ _ (wpAny_of_held (S := fun _ => True) _ _ _ _ ?_))
 have h1 := held_pick (P := P) (md := .any) (Q := Q) (S := fun _ => True) (w := w.drew) hsel0 (g := g + is.length + k) trivial pre (Array.replicate l.toArray.size false) a hpre ?_
 ·rw [hg] at h1
  exact h1
 ·refine wpPick_mono (fun a1 h2 => ?_) pre a h
  refine held_true _ _ _ _ ?_
  rw [hset]
  refine any_lasts2 l pre via k n (g + is.length) _ hk hlast hsz (closedB_spec hclo) (fun i hi => by simpa using List.all_eq_true.1 hon i hi) ?_
  exact only_any _ _ _ _ (wpAny_of_held (S := S) _ _ _ _ (held_pick (P := P) (md := .any) (S := S) hsel (g := g) hS is _ a1 hB h2))
end Go.Proofs.YtlimaehdmcnjaaaGreatDoor
namespace Go.Proofs.YtlimaehdmcnjaaaGreatDoor
open Go.RowKit
open Go.Shelf
open Go.Lib (decDigits nDigits)
theorem held_oneW {P : Program} {ops : Array Oper} {Q : Exit → Act → World → Prop} {md : Region.Mode} {S : World → Prop} {i : Nat} {o : Oper} {fuel : Nat} {listed : Array Bool} {a : Act} {w : World} (hr : Region.ready md ops listed = [i]) (ho : ops[i]? = some o) (hw : Region.wanted o (yielded ops a.tmps) = true)
 (h : wpList P ops (ThenH P md ops (Only Q) S fuel (listed.setIfInBounds i true)) [o] a w) : wpAnyH P md ops (Only Q) S (fuel + 1) listed a w := by
 refine wpAnyH_all hr (by simp) fun j hj => ?_
 obtain rfl : j = i := by simpa using hj
 unfold wpOp
 rw [ho]
 simp only [hw, if_true]
 unfold wpList at h
 rw [if_pos hw] at h
 rcases h with h | ⟨_, _, _, h⟩
 ·left
  unfold Oper.wp at *
  generalize (execOp a.eval o).run P w = r at *
  cases r with
  | ok m w' =>
   cases m <;> simp only [Oper.upon] at h ⊢
   case value u => exact h
   case skip => exact h
   case defer d => exact h
   case enter f args =>
    refine Calls.mono h fun e w'' he => ?_
    cases e with
    | returned u => exact he
    | panicked c => exact he.elim
    | outgrown => obtain ⟨_, _, hx⟩ := he; exact hx.elim
   case row row args => exact h
  | halt x w' =>
   cases x <;> simp only [Oper.upon] at h ⊢
   case panic u => exact h.elim
 ·exact h.elim
theorem grown_below {W W' : World} {r : Option Nat} (h : Below W.heap.size W W') : W.grownBy W' r := ⟨h.os, h.tape, h.output, h.size, fun k hk _ => h.block k hk⟩
theorem grown_set3 {W : World} {g j : Nat} (x y z : Value) : W.grownBy (((W.setCell ⟨g, j, none⟩ x).setCell ⟨g, j + 1, none⟩ y).setCell ⟨g, j + 2, none⟩ z) (some g) := by
 refine ⟨rfl, rfl, rfl, by simp [World.setCell], fun k hk hne => ?_⟩
 have h : k ≠ g := fun e => hne (by rw [e])
 rw [Below.heap_setCell _ _ _ _ h, Below.heap_setCell _ _ _ _ h, Below.heap_setCell _ _ _ _ h]
theorem grown_drew {W W' : World} {r : Option Nat} (h : W.grownBy W' r) : W.grownBy W'.drew r := ⟨h.os, h.tape, h.output, h.size, h.block⟩
def idR (q : Rat) : Rat := q
theorem sort_one (qs : List Rat) : dsort idR (qs.take 1) ++ qs.drop 1 = qs := by
 cases qs with
 | nil => rfl
 | cons a r => rfl
theorem s_ins (w : World) (B g c : Nat) (qs : List Rat) (N : Nat) (hN : qs.length = N) (hv : VRow B w (.slice (some ⟨g, 0, none⟩) N c) qs) (hl : N ≤ 12) (hd : ∀ q ∈ qs, Lim q) :
 Calls Tryz.prog 133 #[.slice (some ⟨g, 0, none⟩) N c, .int .i64 0, .int .i64 (N : Nat), .func (.func 41) #[] #[]] w fun e w' => e = .returned (.tuple #[]) ∧ VRow B w' (.slice (some ⟨g, 0, none⟩) N c) (dsort idR qs) ∧ w.grownBy w' (some g) := by
 have HV := hid hv; have HN := hid hN; have HL := hid hl; have HD := hid hd
 obtain ⟨c1, c2⟩ : N ≤ c ∧ c ≤ 9223372036854775807 := by
  obtain ⟨a', c', e, h1, h2⟩ := hv.slice
  injection e with e1 e2 e3
  subst e3
  exact ⟨by omega, h2⟩
 clear hv hN hl hd
 go_enter Tryz.func133, Tryz.ntmps133
 go_wp2_with fail
 go_loopw [8, 9] (fun s8 s9 wr => ∃ i : Nat, s8 = .int .i64 (i : Nat) ∧ 1 ≤ i ∧ i ≤ N + 1 ∧ Hid (VRow B wr (.slice (some ⟨g, 0, none⟩) N c) (dsort idR (qs.take i) ++ qs.drop i)) ∧ Hid (w.grownBy wr (some g))) (fun s8 s9 wr => N + 1 - (intOf s8).toNat)
 case atStart => exact ⟨1, rfl, Nat.le_refl _, by omega, by rw [sort_one]; exact HV, ⟨rfl, rfl, rfl, Nat.le_refl _, fun _ _ _ => rfl⟩⟩
 case round =>
  obtain ⟨i, rfl, hi1, hi2, hR, hG⟩ := hrel
  by_cases hlt : i < N
  ·obtain ⟨x, hx⟩ : ∃ x, qs[i]? = some x := ⟨_, List.getElem?_eq_getElem (by rw [HN.out]; exact hlt)⟩
   have HX := hid hx; have HLT := hid hlt; have HI1 := hid hi1
   have R0 := hid (show VRow B wr (.slice (some ⟨g, 0, none⟩) N c) (insI idR qs i i x) by rw [insI_top hx]; exact hR.out)
   have wi : IntKind.i64.wrap ((i : Int) + 1) = ((i + 1 : Nat) : Int) := by have := HL.out; rw [IntWalk.i64_in _ ⟨by omega, by omega⟩]; omega
   have t0 : decide ((i : Int) < (N : Int)) = true := decide_eq_true (by omega)
   have t0' : decide (i < N) = true := decide_eq_true hlt
   obtain ⟨wo, hwo⟩ : ∃ q, q = wr := ⟨_, rfl⟩
   subst hwo
   clear hx hlt hi1 hi2 hR
   go_wp2_with fail
   go_loopw [9] (fun s9 wx => ∃ j : Nat, s9 = .int .i64 (j : Nat) ∧ j ≤ i ∧ Hid (VRow B wx (.slice (some ⟨g, 0, none⟩) N c) (insI idR qs i j x)) ∧ Hid (∀ e ∈ (dsort idR (qs.take i)).drop j, idR e < idR x) ∧ Hid (w.grownBy wx (some g))) (fun s9 wx => i - ((i : Int) - intOf s9).toNat)
   case atStart => exact ⟨i, rfl, Nat.le_refl _, R0, hid (fun e he => by rw [List.drop_of_length_le (by rw [dsort_len, List.length_take]; omega)] at he; cases he), hG⟩
   case round =>
    obtain ⟨j, rfl, hj, hRj, hLs, hGj⟩ := hrel
    cases j with
    | zero =>
     have FIN := hid (show VRow B wr (.slice (some ⟨g, 0, none⟩) N c) (dsort idR (qs.take (i + 1)) ++ qs.drop (i + 1)) by rw [← insI_end HX.out (Nat.zero_le _) hLs.out (fun k y h => by omega)]; exact hRj.out)
     clear hj hRj hLs R0
     have GD := hid (show w.grownBy wr.drew (some g) from ⟨hGj.out.os, hGj.out.tape, hGj.out.output, hGj.out.size, hGj.out.block⟩)
     have FD := hid (FIN.out.call (Below.refl _ _).drew)
     go_wp2_with fail
     refine held_plain [0, 1, 2, 3, 4, 5, 6, 7, 8, 9, 10, 11, 12, 13, 14, 15, 16] 0 (fun _ => True) (by kernel_rfl) (by kernel_rfl) (by kernel_rfl) (by kernel_rfl) trivial ?_
     iterate 17
      refine ⟨_, rfl, ?_⟩
      apply Exists.intro
      first
       | (refine ⟨.inl ⟨by rfl, ?_⟩, ?_⟩
          ·(intro W' hW'; clear hW'; go_simp; try (with_reducible rfl)))
       | refine ⟨.inr ⟨by rfl, rfl⟩, ?_⟩
      (dsimp only [Act.put]; try simp only [List.setIfInBounds_toArray, List.set_cons_zero, List.set_cons_succ])
     refine wpAnyH_done (by kernel_rfl) ?_ _
     simp only [Only]
     go_wp2_with fail
     go_roundw
     case rel => exact ⟨i + 1, by go_num, by have := HI1.out; omega, by have := HLT.out; omega, FD, GD⟩
     case measure => simp [intOf] <;> (have := HLT.out; omega)
    | succ k =>
     obtain ⟨y, hy, hy2, hsw⟩ := insI_below (key := idR) (x := x) (l := qs) (i := i) (j := k) (by rw [HN.out]; exact HLT.out) (by omega)
     have hself := insI_self (key := idR) (x := x) (l := qs) (i := i) (j := k + 1) (by rw [HN.out]; exact HLT.out) hj
     obtain ⟨g1, m1, a1, n1, p1, b1, d1, e1, ee, -, -, k0, k1, k2, hQx⟩ := hRj.out.at hself
     obtain rfl : g = g1 := by simpa using ee
     obtain ⟨g2, m2, a2, n2, p2, b2, d2, e2, ee2, hBg, hglt, k3, k4, k5, hQy⟩ := hRj.out.at hy2
     obtain rfl : g = g2 := by simpa using ee2
     have hyq : y ∈ qs := List.mem_of_mem_take ((dsort_perm idR (qs.take i)).mem_iff.1 (List.mem_of_getElem? hy))
     have hxq : x ∈ qs := List.mem_of_getElem? HX.out
     have PL := fun V u v hu hv => hid (s_less V u v x y hu hv (HD.out x hxq) (HD.out y hyq))
     have hcz : cmF y x < 0 ↔ y < x := cmF_lt
     obtain ⟨z, hz⟩ : ∃ z, cmF y x = z := ⟨_, rfl⟩
     rw [hz] at PL hcz
     have HCZ := hid hcz
     clear hcz hz
     have QX := hid hQx; have QY := hid hQy; have HY := hid hy
     have HSW := hid hsw; have HJ := hid hj; have HBG := hid hBg
     have hN12 := HL.out; have hLT := HLT.out
     have t1 : (0 : Int) < ((k + 1 : Nat) : Int) := by omega
     have t1' : (0 : Int) < (k : Int) + 1 := by omega
     obtain ⟨J, hJJ⟩ : ∃ J, k + 1 = J := ⟨_, rfl⟩
     have wj : IntKind.i64.wrap ((J : Int) - 1) = (k : Int) := by rw [IntWalk.i64_in _ ⟨by omega, by omega⟩]; omega
     rw [hJJ] at k0 k1 k2 t1 ⊢
     have HJJ := hid hJJ
     have t3 : decide ((0 : Int) < (J : Int)) = true := decide_eq_true t1
     have t4 : 0 < J := by omega
     have t5 : decide (0 < J) = true := decide_eq_true t4
     have f0 : (0 : Int) ≤ (J : Int) := by omega
     have f1 : (J : Int) < (N : Int) := by omega
     have f2 : (0 : Int) ≤ (k : Int) := by omega
     have f3 : (k : Int) < (N : Int) := by omega
     have KK : Hid (∀ V, Below wr.heap.size wr V → V.cell? ⟨g, J * 3, none⟩ = some (.bool m1) ∧ V.cell? ⟨g, J * 3 + 1, none⟩ = some (.slice a1 n1 p1) ∧ V.cell? ⟨g, J * 3 + 2, none⟩ = some (.slice b1 d1 e1) ∧ V.cell? ⟨g, k * 3, none⟩ = some (.bool m2) ∧ V.cell? ⟨g, k * 3 + 1, none⟩ = some (.slice a2 n2 p2) ∧ V.cell? ⟨g, k * 3 + 2, none⟩ = some (.slice b2 d2 e2)) := fun V hV =>
      ⟨(hV.cell (p := ⟨g, J * 3, none⟩) hglt).trans k0, (hV.cell (p := ⟨g, J * 3 + 1, none⟩) hglt).trans k1, (hV.cell (p := ⟨g, J * 3 + 2, none⟩) hglt).trans k2, (hV.cell (p := ⟨g, k * 3, none⟩) hglt).trans k3, (hV.cell (p := ⟨g, k * 3 + 1, none⟩) hglt).trans k4, (hV.cell (p := ⟨g, k * 3 + 2, none⟩) hglt).trans k5⟩
     clear hy hy2 hsw hself ee ee2 hQx hQy hyq hxq hBg hglt k0 k1 k2 k3 k4 k5 hJJ hj t1' hN12 hLT R0
     go_wp2_with fail
     refine held_plain [0, 1, 2, 3, 4, 5, 6, 7, 8, 9, 10, 11, 12, 13] 3 (fun V => V.cell? ⟨g, J * 3, none⟩ = some (.bool m1) ∧ V.cell? ⟨g, J * 3 + 1, none⟩ = some (.slice a1 n1 p1) ∧ V.cell? ⟨g, J * 3 + 2, none⟩ = some (.slice b1 d1 e1) ∧ V.cell? ⟨g, k * 3, none⟩ = some (.bool m2) ∧ V.cell? ⟨g, k * 3 + 1, none⟩ = some (.slice a2 n2 p2) ∧ V.cell? ⟨g, k * 3 + 2, none⟩ = some (.slice b2 d2 e2)) (by kernel_rfl) (by kernel_rfl) (by kernel_rfl) (by kernel_rfl) (KK.out _ (Below.refl _ _).drew) ?_
     iterate 14
      refine ⟨_, rfl, ?_⟩
      apply Exists.intro
      refine ⟨.inl ⟨by rfl, ?_⟩, ?_⟩
      ·(intro W' hW'; obtain ⟨z1, z2, z3, z4, z5, z6⟩ := hW'; go_simp; try (with_reducible rfl))
      (dsimp only [Act.put]; try simp only [List.setIfInBounds_toArray, List.set_cons_zero, List.set_cons_succ])
     refine held_oneW (i := 14) (by kernel_rfl) (by rfl) (by rfl) ?_
     go_wp2_with fail
     refine (PL _ _ _ (QX.out.call (Below.refl _ _).drew) (QY.out.call (Below.refl _ _).drew)).out.mono ?_; rintro e w6 ⟨rfl, hb6⟩
     have x6 := hid (show Below wr.heap.size wr w6 from (Below.refl _ _).drew.trans hb6)
     clear hb6
     by_cases hyx : y < x
     ·have q0 : decide (z < 0) = true := decide_eq_true (HCZ.out.2 hyx)
      have LS := hid (drop_step (key := idR) HY.out hyx (by have h := hLs.out; exact h))
      clear hyx
      go_wp2_with fail
      refine ⟨KK.out _ x6.out, ?_⟩
      refine held_more (is := [15, 16]) (g := 0) (by kernel_rfl) rfl (KK.out _ x6.out) (by kernel_rfl) ?_
      iterate 2
       refine ⟨_, rfl, ?_⟩
       apply Exists.intro
       refine ⟨.inl ⟨by rfl, ?_⟩, ?_⟩
       ·(intro W' hW'; obtain ⟨z1, z2, z3, z4, z5, z6⟩ := hW'; go_simp; try (with_reducible rfl))
       (dsimp only [Act.put]; try simp only [List.setIfInBounds_toArray, List.set_cons_zero, List.set_cons_succ])
      refine wpAnyH_done (by kernel_rfl) ?_ _
      simp only [Only]
      have R6 := hid (hRj.out.call x6.out)
      obtain ⟨z1, z2, z3, z4, z5, z6⟩ := KK.out _ x6.out
      have h1 := R6.out.free (J * 3)
      have h2 := R6.out.free (J * 3 + 1)
      have h3 := R6.out.free (J * 3 + 2)
      have h4 := R6.out.free (k * 3)
      have h5 := R6.out.free (k * 3 + 1)
      have h6 := R6.out.free (k * 3 + 2)
      go_wp2_with fail
      have ne1 : (J * 3 = k * 3) = False := by have := HJJ.out; simp; omega
      have ne2 : (k * 3 = J * 3) = False := by have := HJJ.out; simp; omega
      have ne3 : (J * 3 = k * 3 + 1) = False := by have := HJJ.out; simp; omega
      have ne4 : (k * 3 + 1 = J * 3) = False := by have := HJJ.out; simp; omega
      have ne5 : (J * 3 = k * 3 + 2) = False := by have := HJJ.out; simp; omega
      have ne6 : (k * 3 + 2 = J * 3) = False := by have := HJJ.out; simp; omega
      have ne7 : (J * 3 + 1 = k * 3) = False := by have := HJJ.out; simp; omega
      have ne8 : (k * 3 = J * 3 + 1) = False := by have := HJJ.out; simp; omega
      have ne9 : (J * 3 + 1 = k * 3 + 1) = False := by have := HJJ.out; simp; omega
      have ne10 : (k * 3 + 1 = J * 3 + 1) = False := by have := HJJ.out; simp; omega
      have ne11 : (J * 3 + 1 = k * 3 + 2) = False := by have := HJJ.out; simp; omega
      have ne12 : (k * 3 + 2 = J * 3 + 1) = False := by have := HJJ.out; simp; omega
      have ne13 : (J * 3 + 2 = k * 3) = False := by have := HJJ.out; simp; omega
      have ne14 : (k * 3 = J * 3 + 2) = False := by have := HJJ.out; simp; omega
      have ne15 : (J * 3 + 2 = k * 3 + 1) = False := by have := HJJ.out; simp; omega
      have ne16 : (k * 3 + 1 = J * 3 + 2) = False := by have := HJJ.out; simp; omega
      have ne17 : (J * 3 + 2 = k * 3 + 2) = False := by have := HJJ.out; simp; omega
      have ne18 : (k * 3 + 2 = J * 3 + 2) = False := by have := HJJ.out; simp; omega
      have ne0 : (J = k) = False := by have := HJJ.out; simp; omega
      have ne00 : (k = J) = False := by have := HJJ.out; simp; omega
      go_region
      have HSW2 : ((insI idR qs i (k + 1) x).set J y).set k x = insI idR qs i k x := by rw [← HJJ.out]; exact HSW.out
      have hlen : (insI idR qs i (k + 1) x).length = N := by rw [insI_len (by rw [HN.out]; exact HLT.out), HN.out]
      obtain ⟨P1, P2⟩ := R6.out.put (i := J) (by rw [hlen]; have := HLT.out; have := HJ.out; have := HJJ.out; omega) (QY.out.call x6.out)
      obtain ⟨P3, -⟩ := P1.put (i := k) (by rw [List.length_set, hlen]; have := HLT.out; have := HJ.out; omega) (P2.isQ (QX.out.call x6.out))
      rw [HSW2] at P3
      have RN := hid (P3.call (Below.refl _ _).drew)
      have GN := hid (grown_drew (((hGj.out.trans (grown_below (r := some g) x6.out)).trans (grown_set3 (g := g) (j := J * 3) (.bool m2) (.slice a2 n2 p2) (.slice b2 d2 e2))).trans (grown_set3 (g := g) (j := k * 3) (.bool m1) (.slice a1 n1 p1) (.slice b1 d1 e1))))
      clear P1 P2 P3 HSW2 hlen
      go_wp2_with fail
      go_roundw
      case rel => exact ⟨k, by go_num, by have := HJ.out; omega, RN, LS, GN⟩
      case measure => simp [intOf] <;> (have := HJ.out; have := HJJ.out; omega)
     ·have q0 : decide (z < 0) = false := decide_eq_false fun e => hyx (HCZ.out.1 e)
      have FIN := hid (show VRow B wr (.slice (some ⟨g, 0, none⟩) N c) (dsort idR (qs.take (i + 1)) ++ qs.drop (i + 1)) by
       rw [← insI_end HX.out HJ.out hLs.out (fun k2 y2 h h2 => by
        obtain rfl : k = k2 := by omega
        rw [HY.out] at h2
        rw [← Option.some.inj h2]
        exact hyx)]
       exact hRj.out)
      have FD := hid (FIN.out.call x6.out)
      have GD := hid (hGj.out.trans (grown_below (r := some g) x6.out))
      clear hyx
      go_wp2_with fail
      refine ⟨KK.out _ x6.out, ?_⟩
      refine held_more (is := [15, 16]) (g := 0) (by kernel_rfl) rfl (KK.out _ x6.out) (by kernel_rfl) ?_
      iterate 2
       refine ⟨_, rfl, ?_⟩
       apply Exists.intro
       refine ⟨.inl ⟨by rfl, ?_⟩, ?_⟩
       ·(intro W' hW'; obtain ⟨z1, z2, z3, z4, z5, z6⟩ := hW'; go_simp; try (with_reducible rfl))
       (dsimp only [Act.put]; try simp only [List.setIfInBounds_toArray, List.set_cons_zero, List.set_cons_succ])
      refine wpAnyH_done (by kernel_rfl) ?_ _
      simp only [Only]
      go_wp2_with fail
      go_roundw
      case rel => exact ⟨i + 1, by go_num, by have := HI1.out; omega, by have := HLT.out; omega, FD, GD⟩
      case measure => simp [intOf] <;> (have := HLT.out; omega)
  ·have t0 : decide ((i : Int) < (N : Int)) = false := decide_eq_false (by omega)
   have t0' : decide (i < N) = false := decide_eq_false hlt
   have FIN := hid (show VRow B wr (.slice (some ⟨g, 0, none⟩) N c) (dsort idR qs) by
    have h := hR.out
    rw [List.take_of_length_le (by rw [HN.out]; omega), List.drop_of_length_le (by rw [HN.out]; omega), List.append_nil] at h
    exact h)
   clear hlt hi1 hi2 hR
   go_wp2_with fail
   exact ⟨rfl, .tuple #[], results_none (by kernel_rfl) _ _ _, rfl, FIN.out, hG.out⟩
theorem s_pdq (w : World) (B g c : Nat) (qs : List Rat) (N : Nat) (L : Int) (hN : qs.length = N) (hv : VRow B w (.slice (some ⟨g, 0, none⟩) N c) qs) (hl : N ≤ 12) (hd : ∀ q ∈ qs, Lim q) :
 Calls Tryz.prog 92 #[.slice (some ⟨g, 0, none⟩) N c, .int .i64 0, .int .i64 (N : Nat), .int .i64 L, .func (.func 41) #[] #[]] w fun e w' => e = .returned (.tuple #[]) ∧ VRow B w' (.slice (some ⟨g, 0, none⟩) N c) (dsort idR qs) ∧ w.grownBy w' (some g) := by
 have HI := hid (s_ins w B g c qs N hN hv hl hd)
 have w0 : IntKind.i64.wrap (N : Int) = (N : Int) := by rw [IntWalk.i64_in _ ⟨by omega, by omega⟩]
 have w1 : IntKind.i64.wrap ((N : Int) - 0) = (N : Int) := by rw [IntWalk.i64_in _ ⟨by omega, by omega⟩]; omega
 have t0 : decide ((N : Int) ≤ 12) = true := decide_eq_true (by omega)
 have t1 : decide (N ≤ 12) = true := decide_eq_true hl
 clear hN hv hl hd
 go_enter Tryz.func92, Tryz.ntmps92
 go_wp2_with fail
 go_loopw [1, 2, 3, 10, 11, 12, 13, 14, 15, 16, 17, 18, 19, 20] (fun s1 s2 s3 s10 s11 s12 s13 s14 s15 s16 s17 s18 s19 s20 wr => s1 = .int .i64 0 ∧ s2 = .int .i64 (N : Nat) ∧ w = wr) (fun s1 s2 s3 s10 s11 s12 s13 s14 s15 s16 s17 s18 s19 s20 wr => 1)
 case atStart => exact ⟨rfl, rfl, rfl⟩
 case round =>
  obtain ⟨rfl, rfl, rfl⟩ := hrel
  go_wp2_with fail
  refine HI.out.mono ?_; rintro e w1 ⟨rfl, hr, hg⟩
  have HR := hid hr; have HG := hid hg
  clear hr hg
  go_wp2_with fail
  exact ⟨rfl, .tuple #[], results_none (by kernel_rfl) _ _ _, rfl, HR.out, HG.out⟩
theorem s_SortF (w : World) (B g c : Nat) (qs : List Rat) (N : Nat) (hN : qs.length = N) (hv : VRow B w (.slice (some ⟨g, 0, none⟩) N c) qs) (hl : N ≤ 12) (hd : ∀ q ∈ qs, Lim q) :
 Calls Tryz.prog 40 #[.slice (some ⟨g, 0, none⟩) N c, .func (.func 41) #[] #[]] w fun e w' => e = .returned (.tuple #[]) ∧ VRow B w' (.slice (some ⟨g, 0, none⟩) N c) (dsort idR qs) ∧ w.grownBy w' (some g) := by
 have HI := fun L => hid (s_pdq w B g c qs N L hN hv hl hd)
 have hbl : Calls Tryz.prog 93 #[.int .u64 (N : Int)] w fun e w' => e = .returned (.int .i64 (Lib.bitLen N : Nat)) ∧ w' = w := by
  have h := Any.bits_Len Tryz.lenW (N : Int) w (by omega) (by omega)
  rwa [Int.toNat_natCast] at h
 have wr : IntKind.u64.wrap (N : Int) = N := by simp [IntKind.wrap, IntKind.bits, IntKind.signed]; omega
 clear hN hv hl hd
 go_enter Tryz.func40, Tryz.ntmps40
 go_wp2_with fail
 refine hbl.mono ?_; rintro e w' ⟨rfl, rfl⟩
 go_wp2_with fail
 refine (HI _).out.mono ?_; rintro e w1 ⟨rfl, hr, hg⟩
 have HR := hid hr; have HG := hid hg
 clear hr hg
 go_wp2_with fail
 go_end0
 exact ⟨rfl, HR.out, HG.out⟩
def absQ (q : Rat) : Rat := if q < 0 then -q else q
theorem absQ_parts (q : Rat) : ¬ (absQ q).num < 0 ∧ (absQ q).num.natAbs = q.num.natAbs ∧ (absQ q).den = q.den := by
 unfold absQ
 by_cases h : q < 0
 ·rw [if_pos h]
  refine ⟨?_, by rw [Rat.neg_num, Int.natAbs_neg], Rat.neg_den q⟩
  have : (-q).num ≥ 0 := Rat.num_nonneg.2 (by grind)
  omega
 ·rw [if_neg h]
  refine ⟨?_, rfl, rfl⟩
  have : q.num ≥ 0 := Rat.num_nonneg.2 (by grind)
  omega
theorem isQ_abs {W : World} {m : Bool} {x y : Value} {q : Rat} (h : IsQ .u64 W (.agg #[.bool m, x, y]) q) : IsQ .u64 W (.agg #[.bool false, x, y]) (absQ q) := by
 obtain ⟨N, D, e, h1, h2⟩ := h.ex
 injection e with e
 have e2 := congrArg Array.toList e
 injection e2 with e3 e4
 injection e4 with e5 e6
 injection e6 with e7 e8
 subst e5 e7
 obtain ⟨a1, a2, a3⟩ := absQ_parts q
 refine ⟨x, y, ?_, by rw [a2]; exact h1, by rw [a3]; exact h2⟩
 rw [decide_eq_false a1]
theorem Lim.abs {q : Rat} (h : Lim q) : Lim (absQ q) := by
 obtain ⟨a1, a2, a3⟩ := absQ_parts q
 unfold Lim
 rw [a2, a3]
 exact h
theorem f_Abs (w : World) (v : Value) (q : Rat) (h : IsQ .u64 w v q) :
 Calls Tryz.prog 64 #[v] w fun e w' => RetQ .u64 (absQ q) e w' ∧ Below w.heap.size w w' := by
 obtain ⟨m1, a1, n1, c1, b1, d1, e1, rfl⟩ := h.qv
 have A1 := hid ((Below.refl w.heap.size w).alloc (Nat.le_refl _) (.cells #[.bool m1, .slice a1 n1 c1, .slice b1 d1 e1] 57))
 have A2 := hid (A1.out.alloc A1.out.size (.cells #[.bool false, .slice none 0 0, .slice none 0 0] 57))
 have A3 := hid (A1.out.alloc A1.out.size (.cells #[.bool false, .slice a1 n1 c1, .slice b1 d1 e1] 57))
 have Q := hid (isQ_abs h)
 clear h
 go_enter Tryz.func64, Tryz.ntmps64
 go_wp2_with fail
 refine bodyPost_ret (v := .agg #[.bool false, .slice a1 n1 c1, .slice b1 d1 e1]) (by simp [results, Tryz.results64, go_sem]) rfl ⟨⟨_, rfl, ?_⟩, ?_⟩
 ·exact Q.out.call A3.out
 ·exact A3.out
def farB (H q : Rat) : Bool := decide (0 < cmF (absQ q) H)
theorem farB_is {H q : Rat} : farB H q = decide (H < q ∨ q < -H) := by
 unfold farB
 have h : 0 < cmF (absQ q) H ↔ H < absQ q := by
  have := cmF_le (p := absQ q) (q := H)
  have h2 : H < absQ q ↔ ¬ absQ q ≤ H := by grind
  rw [h2, ← this]
  omega
 rw [decide_eq_decide, h]
 unfold absQ
 by_cases hq : q < 0
 ·rw [if_pos hq]; grind
 ·rw [if_neg hq]; grind
theorem s_far (w : World) (v : Value) (q H : Rat) (g : Nat) (hv : IsQ .u64 w v q) (lq : Lim q) (hg : FB w g H) (lH : Lim H) :
 Calls Tryz.prog 63 #[v, .pointer (some ⟨g, 0, none⟩)] w fun e w' => e = .returned (.bool (farB H q)) ∧ Below w.heap.size w w' := by
 obtain ⟨m1, a1, n1, c1, b1, d1, e1, rfl⟩ := hv.qv
 obtain ⟨m2, a2, n2, c2, b2, d2, e2, hB, hQH⟩ := hg
 obtain ⟨W, hW⟩ : ∃ W, w.alloc (.cells #[.bool m1, .slice a1 n1 c1, .slice b1 d1 e1] 57) = W := ⟨_, rfl⟩
 have y0 : Below w.heap.size w W := by rw [← hW]; exact (Below.refl _ _).alloc (Nat.le_refl _) _
 have Y0 : Blk W w.heap.size #[.bool m1, .slice a1 n1 c1, .slice b1 d1 e1] 57 := by rw [← hW]; exact Blk.new w _ _
 have Y1 := hB.call y0
 have KK : Hid (∀ w', Below W.heap.size W w' → w'.cell? ⟨w.heap.size, 0, none⟩ = some (.bool m1) ∧ w'.cell? ⟨w.heap.size, 1, none⟩ = some (.slice a1 n1 c1) ∧ w'.cell? ⟨w.heap.size, 2, none⟩ = some (.slice b1 d1 e1) ∧ w'.cell? ⟨g, 0, none⟩ = some (.bool m2) ∧ w'.cell? ⟨g, 1, none⟩ = some (.slice a2 n2 c2) ∧ w'.cell? ⟨g, 2, none⟩ = some (.slice b2 d2 e2)) := fun w' hb =>
  ⟨(Y0.call hb).cell 0, (Y0.call hb).cell 1, (Y0.call hb).cell 2, (Y1.call hb).cell 0, (Y1.call hb).cell 1, (Y1.call hb).cell 2⟩
 have Q1 := hid (hv.call y0); have Q2 := hid (hQH.call y0)
 have PA := fun V u hu => hid (f_Abs V u q hu)
 have la := lq.abs
 have PC := fun V x y hx hy => hid (f_Cmp V x y (absQ q) H hx hy la.1 la.2 lH.1 lH.2)
 have HF := hid (show decide (0 < cmF (absQ q) H) = farB H q from rfl)
 obtain ⟨z, hz⟩ : ∃ z, cmF (absQ q) H = z := ⟨_, rfl⟩
 rw [hz] at PC HF
 rw [← HF.out]
 have HY := hid y0; have HW := hid hW
 clear Y0 Y1 y0 hB hQH hv lq lH hz HF la
 go_enter Tryz.func63, Tryz.ntmps63
 go_wp2_with fail
 clear hW HW
 refine held_plain [0, 2] 4 (fun w' => w'.cell? ⟨w.heap.size, 0, none⟩ = some (.bool m1) ∧ w'.cell? ⟨w.heap.size, 1, none⟩ = some (.slice a1 n1 c1) ∧ w'.cell? ⟨w.heap.size, 2, none⟩ = some (.slice b1 d1 e1) ∧ w'.cell? ⟨g, 0, none⟩ = some (.bool m2) ∧ w'.cell? ⟨g, 1, none⟩ = some (.slice a2 n2 c2) ∧ w'.cell? ⟨g, 2, none⟩ = some (.slice b2 d2 e2)) (by kernel_rfl) (by kernel_rfl) (by kernel_rfl) (by kernel_rfl) (KK.out _ (Below.refl _ _).drew) ?_
 iterate 2
  refine ⟨_, rfl, ?_⟩
  apply Exists.intro
  refine ⟨.inl ⟨by rfl, ?_⟩, ?_⟩
  ·(intro W' hW'; obtain ⟨q1, q2, q3, q4, q5, q6⟩ := hW'; go_simp; try (with_reducible rfl))
  (dsimp only [Act.put]; try simp only [List.setIfInBounds_toArray, List.set_cons_zero, List.set_cons_succ])
 refine held_one (i := 1) (by kernel_rfl) (by rfl) (by rfl) ?_
 go_wp2_with fail
 refine (PA _ _ (Q1.out.call (Below.refl _ _).drew)).out.mono ?_; rintro e w1 ⟨⟨v1, rfl, hv1⟩, hb1⟩
 obtain ⟨m3, a3, n3, c3, b3, d3, e3, rfl⟩ := hv1.qv
 have x1 := hid (show Below W.heap.size W w1 from (Below.refl _ _).drew.trans hb1)
 have V1 := hid hv1
 clear hb1 hv1
 go_wp2_with fail
 refine ⟨KK.out _ x1.out, ?_⟩
 refine held_one (i := 3) (by kernel_rfl) (by rfl) (by rfl) ?_
 go_wp2_with fail
 refine (PC _ _ _ V1.out (Q2.out.call x1.out)).out.mono ?_; rintro e w2 ⟨rfl, hb2⟩
 have x2 := hid (bnext x1.out hb2)
 clear hb2
 go_wp2_with fail
 refine ⟨KK.out _ x2.out, ?_⟩
 refine held_more (is := [4, 5]) (g := 0) (by kernel_rfl) rfl (KK.out _ x2.out) (by kernel_rfl) ?_
 iterate 2
  refine ⟨_, rfl, ?_⟩
  apply Exists.intro
  refine ⟨.inl ⟨by rfl, ?_⟩, ?_⟩
  ·(intro W' hW'; obtain ⟨q1, q2, q3, q4, q5, q6⟩ := hW'; go_simp; try (with_reducible rfl))
  (dsimp only [Act.put]; try simp only [List.setIfInBounds_toArray, List.set_cons_zero, List.set_cons_succ])
 refine wpAnyH_done (by kernel_rfl) ?_ _
 simp only [Only]
 have yy := hid (bnext HY.out x2.out)
 go_wp2_with fail
 go_ret
 exact ⟨rfl, yy.out⟩
def idxR (p : Rat → Bool) (l : List Rat) : Int := if l.any p = true then (l.findIdx p : Nat) else -1
theorem s_IndexF (w : World) (B : Nat) (v : Value) (qs : List Rat) (H : Rat) (g : Nat) (hv : VRow B w v qs) (hl : qs.length ≤ 64) (hd : ∀ q ∈ qs, Lim q) (hg : FB w g H) (lH : Lim H) :
 Calls Tryz.prog 113 #[v, .func (.func 63) #[] #[.pointer (some ⟨g, 0, none⟩)]] w fun e w' => e = .returned (.int .i64 (idxR (farB H) qs)) ∧ Below w.heap.size w w' := by
 obtain ⟨a, c, rfl, c1, c2⟩ := hv.slice
 obtain ⟨n, hn⟩ : ∃ n, qs.length = n := ⟨_, rfl⟩
 rw [hn] at hv c1 hl ⊢
 have HV := hid hv; have HN := hid hn; have HD := hid hd; have HG := hid hg; have LH := hid lH
 clear hv hn hd hg lH
 go_enter Tryz.func113, Tryz.ntmps113
 go_wp2_with fail
 go_loopw [8] (fun ii wr => ∃ i : Nat, ii = .int .i64 i ∧ i ≤ n ∧ Hid (∀ j x, j < i → qs[j]? = some x → farB H x = false) ∧ Hid (Below w.heap.size w wr)) (fun ii wr => n - (intOf ii).toNat)
 case atStart => exact ⟨0, rfl, Nat.zero_le _, fun j x hj => absurd hj (by omega), Below.refl _ _⟩
 case round =>
  obtain ⟨i, rfl, hi, hI, hB⟩ := hrel
  by_cases hlt : i < n
  ·obtain ⟨x, hx⟩ : ∃ x, qs[i]? = some x := ⟨_, List.getElem?_eq_getElem (by rw [HN.out]; exact hlt)⟩
   obtain ⟨g1, m1, a1, n1, p1, b1, d1, e1, rfl, -, hg1, k0, k1, k2, hQx⟩ := (HV.out.call hB.out).at hx
   have HX := hid hx
   have b1' : (0 : Int) ≤ (i : Int) := by omega
   have b2' : (i : Int) < (n : Int) := by omega
   have wi : IntKind.i64.wrap ((i : Int) + 1) = ((i + 1 : Nat) : Int) := by rw [IntWalk.i64_in _ ⟨by omega, by omega⟩]; omega
   have LX := hid (HD.out x (List.mem_of_getElem? hx))
   have QX := hid hQx
   obtain ⟨z, hz⟩ : ∃ z, farB H x = z := ⟨_, rfl⟩
   have C := hid (hz ▸ s_far wr _ x H g QX.out LX.out (HG.out.call hB.out) LH.out)
   have HZ := hid hz
   clear hx hz hQx
   go_wp2_with fail
   refine C.out.mono ?_; rintro e w1 ⟨rfl, hb1⟩
   have B1 := hid (bnext hB.out hb1)
   clear hb1
   cases z
   ·go_wp2_with fail
    go_roundw
    case rel => exact ⟨i + 1, by go_num, by omega, fun j y hj hy => by
     rcases Nat.lt_or_ge j i with h | h
     ·exact hI.out j y h hy
     ·obtain rfl : j = i := by omega
      rw [HX.out] at hy; cases hy; exact HZ.out, B1⟩
    case measure => simp [intOf] <;> omega
   ·have hA : qs.any (farB H) = true := List.any_eq_true.2 ⟨x, List.mem_of_getElem? HX.out, HZ.out⟩
    have hfi : qs.findIdx (farB H) = i := by
     have hil : i < qs.length := by rw [HN.out]; exact hlt
     rw [List.findIdx_eq hil]
     refine ⟨?_, fun j hj => ?_⟩
     ·have := HX.out; rw [List.getElem?_eq_getElem hil] at this; rw [Option.some.inj this]; exact HZ.out
     ·exact hI.out j _ hj (List.getElem?_eq_getElem (Nat.lt_trans hj hil))
    have HE := hid (show idxR (farB H) qs = (i : Int) from by rw [idxR, if_pos hA, hfi])
    clear hA hfi
    go_wp2_with fail
    go_ret
    exact ⟨by rw [HE.out]; rfl, B1.out⟩
  ·obtain rfl : i = n := by omega
   have hA : ¬ qs.any (farB H) = true := fun h => by
    obtain ⟨x, hx, hp⟩ := List.any_eq_true.1 h
    obtain ⟨j, hj⟩ := List.getElem?_of_mem hx
    have := hI.out j x (by rw [← HN.out]; exact (List.getElem?_eq_some_iff.1 hj).1) hj
    rw [this] at hp; cases hp
   have HE := hid (show idxR (farB H) qs = -1 from by rw [idxR, if_neg hA])
   have q0 : decide ((i : Int) < (i : Int)) = false := by simp
   have q1 : decide (i < i) = false := by simp
   clear hA hlt
   go_wp2_with fail
   go_ret
   exact ⟨by rw [HE.out]; rfl, hB.out⟩
theorem s_ContF (w : World) (B : Nat) (v : Value) (qs : List Rat) (H : Rat) (g : Nat) (hv : VRow B w v qs) (hl : qs.length ≤ 64) (hd : ∀ q ∈ qs, Lim q) (hg : FB w g H) (lH : Lim H) :
 Calls Tryz.prog 62 #[v, .func (.func 63) #[] #[.pointer (some ⟨g, 0, none⟩)]] w fun e w' => e = .returned (.bool (qs.any (farB H))) ∧ Below w.heap.size w w' := by
 have HI := hid (s_IndexF w B v qs H g hv hl hd hg lH)
 have HB := hid (show decide (0 ≤ idxR (farB H) qs) = qs.any (farB H) from by
  unfold idxR
  cases h : qs.any (farB H)
  ·rw [if_neg (by simp)]; rfl
  ·rw [if_pos rfl]; simp)
 rw [← HB.out]
 obtain ⟨a, c, rfl, -⟩ := hv.slice
 generalize idxR (farB H) qs = z at *
 clear hv hd hg lH
 go_enter Tryz.func62, Tryz.ntmps62
 go_wp2_with fail
 refine HI.out.mono ?_; rintro e w1 ⟨rfl, hb1⟩
 have B1 := hid hb1
 clear hb1
 go_wp2_with fail
 go_ret
 exact ⟨rfl, B1.out⟩
end Go.Proofs.YtlimaehdmcnjaaaGreatDoor
namespace Go.Proofs.YtlimaehdmcnjaaaGreatDoor
open Go.RowKit
open Go.Lib (decDigits nDigits)
def abB (s : ByteArray) : ByteArray := if qE s = 0 then outB (absQ (vQ s)) else ⟨#[]⟩
def o1B : ByteArray := ⟨#[49]⟩
theorem Dn.abs {D B : Nat} {q : Rat} (h : Dn D B q) : Dn D B (absQ q) := by
 unfold absQ
 split
 ·exact h.neg
 ·exact h
theorem Dn.one {D B : Nat} (hD : 0 < D) (hB : 1 ≤ B) : Dn D B 1 := ⟨hD, D, by rw [Rat.one_mul, Rat.intCast_natCast], by rw [Int.natAbs_natCast]; exact Nat.le_mul_of_pos_left _ hB⟩
theorem TxL.set {D B : Nat} {l : List ByteArray} {qs : List Rat} {s : ByteArray} {q : Rat} (h : TxL D B l qs) (n : Nat) (h1 : Tx s q) (h2 : Dn D B q) : TxL D B (l.set n s) (qs.set n q) :=
 ⟨by rw [List.length_set, List.length_set, h.len], fun i a p k1 k2 => by
  rw [List.getElem?_set] at k1 k2
  by_cases e : n = i
  ·subst e
   by_cases hl : n < l.length
   ·have hq : n < qs.length := by rw [← h.len]; exact hl
    simp [hl] at k1
    simp [hq] at k2
    subst k1 k2
    exact h1
   ·simp [hl] at k1
  ·rw [if_neg e] at k1 k2
   exact h.tx i a p k1 k2, fun p hp => by
  rcases List.mem_or_eq_of_mem_set hp with hp | rfl
  ·exact h.dn p hp
  ·exact h2⟩
theorem tx_one : Tx o1B 1 := ⟨by decide +kernel, by decide +kernel⟩
open Go.Shelf
theorem k_SameS (w : World) (v u : Value) (L M : List ByteArray) (hv : Row w v (strs L)) (hu : Row w u (strs M)) :
 Calls Tryz.prog 16 #[v, u] w fun e w' => e = .returned (.bool (decide (L = M))) ∧ Below w.heap.size w w' := by
 obtain ⟨a, c, rfl, h1, h2, h3⟩ := hv.openS
 obtain ⟨a', c', rfl, h1', h2', h3'⟩ := hu.openS
 obtain ⟨n, hn⟩ : ∃ n, L.length = n := ⟨_, rfl⟩
 obtain ⟨m, hm⟩ : ∃ n, M.length = n := ⟨_, rfl⟩
 rw [hn] at h1 ⊢
 rw [hm] at h1' ⊢
 have H3 := hid h3; have H3' := hid h3'; have HN := hid hn; have HM := hid hm
 clear hv hu h3 h3'
 by_cases hnm : n = m
 ·subst hnm
  have q0 : ((n : Int) != (n : Int)) = false := by simp
  clear hn hm
  go_enter Tryz.func16, Tryz.ntmps16
  go_wp2_with fail
  go_loopw [5] (fun ii wr => ∃ i : Nat, ii = .int .i64 (i : Nat) ∧ i ≤ n ∧ Hid (∀ j, j < i → L[j]? = M[j]?) ∧ Hid (Below w.heap.size w wr)) (fun ii wr => n - (intOf ii).toNat)
  case atStart => exact ⟨0, rfl, Nat.zero_le _, fun j hj => absurd hj (by omega), Below.refl _ _⟩
  case round =>
   obtain ⟨i, rfl, hi, hI, hB⟩ := hrel
   by_cases hlt : i < n
   ·obtain ⟨x, hx⟩ : ∃ x, L[i]? = some x := ⟨_, List.getElem?_eq_getElem (by rw [HN.out]; exact hlt)⟩
    obtain ⟨y, hy⟩ : ∃ x, M[i]? = some x := ⟨_, List.getElem?_eq_getElem (by rw [HM.out]; exact hlt)⟩
    obtain ⟨g, o, rfl, hg, k1⟩ := H3.out i x hx
    obtain ⟨g', o', rfl, hg', k1'⟩ := H3'.out i y hy
    have HX := hid hx; have HY := hid hy
    have m1 := (hB.out.cell (p := ⟨g, o + i, none⟩) hg).trans k1
    have m3 := (hB.out.cell (p := ⟨g', o' + i, none⟩) hg').trans k1'
    have b1 : (0 : Int) ≤ (i : Int) := by omega
    have b2 : (i : Int) < (n : Int) := by omega
    have wi : IntKind.i64.wrap ((i : Int) + 1) = (i : Int) + 1 := by rw [IntWalk.i64_in _ ⟨by omega, by omega⟩]
    clear k1 k1' hx hy hg hg'
    by_cases he1 : x = y
    ·subst he1
     go_wp2_with fail
     refine held_plain [0, 1, 2, 3, 4, 5, 6, 7, 8] 0 (fun w' => w'.cell? ⟨g, o + i, none⟩ = some (.string x) ∧ w'.cell? ⟨g', o' + i, none⟩ = some (.string x)) (by kernel_rfl) (by kernel_rfl) (by kernel_rfl) (by kernel_rfl) ⟨m1, m3⟩ ?_
     iterate 9
      refine ⟨_, rfl, ?_⟩
      apply Exists.intro
      refine ⟨.inl ⟨by rfl, ?_⟩, ?_⟩
      ·(intro W' hW'; obtain ⟨q1, q2⟩ := hW'; go_simp; try (with_reducible rfl))
      (dsimp only [Act.put]; try simp only [List.setIfInBounds_toArray, List.set_cons_zero, List.set_cons_succ])
     refine wpAnyH_done (by kernel_rfl) ?_ _
     simp only [Only]
     go_wp2_with fail
     go_roundw
     case rel => exact ⟨i + 1, rfl, by omega, fun j hj => by
      rcases Nat.lt_or_ge j i with h | h
      ·exact hI.out j h
      ·obtain rfl : j = i := by omega
       rw [HX.out, HY.out], hB.out.drew⟩
     case measure => simp [intOf] <;> omega
    ·have n1 : (x.toList == y.toList) = false := by rw [beq_eq_false_iff_ne]; exact ne_tl he1
     have hne : decide (L = M) = false := by
      rw [decide_eq_false_iff_not]; rintro rfl
      have := HX.out.symm.trans HY.out
      simp only [Option.some.injEq] at this
      exact he1 this
     have HNE := hid hne
     clear hne he1
     go_wp2_with fail
     refine held_plain [0, 1, 2, 3, 4, 5, 6, 7, 8] 0 (fun w' => w'.cell? ⟨g, o + i, none⟩ = some (.string x) ∧ w'.cell? ⟨g', o' + i, none⟩ = some (.string y)) (by kernel_rfl) (by kernel_rfl) (by kernel_rfl) (by kernel_rfl) ⟨m1, m3⟩ ?_
     iterate 9
      refine ⟨_, rfl, ?_⟩
      apply Exists.intro
      refine ⟨.inl ⟨by rfl, ?_⟩, ?_⟩
      ·(intro W' hW'; obtain ⟨q1, q2⟩ := hW'; go_simp; try (with_reducible rfl))
      (dsimp only [Act.put]; try simp only [List.setIfInBounds_toArray, List.set_cons_zero, List.set_cons_succ])
     refine wpAnyH_done (by kernel_rfl) ?_ _
     simp only [Only]
     go_wp2_with fail
     go_ret
     exact ⟨by rw [HNE.out]; rfl, hB.out.drew⟩
   ·obtain rfl : i = n := by omega
    have hE : L = M := by
     apply List.ext_getElem?
     intro j
     by_cases hj : j < i
     ·exact hI.out j hj
     ·rw [List.getElem?_eq_none (by rw [HN.out]; omega), List.getElem?_eq_none (by rw [HM.out]; omega)]
    have HE := hid hE
    have q1 : decide ((i : Int) < (i : Int)) = false := by simp
    clear hE
    go_wp2_with fail
    go_ret
    exact ⟨by rw [decide_eq_true HE.out]; rfl, hB.out⟩
 ·have hE : decide (L = M) = false := by rw [decide_eq_false_iff_not]; rintro rfl; exact hnm (hn.symm.trans hm)
  have HE := hid hE
  have q0 : ((n : Int) != (m : Int)) = true := by simp; omega
  clear hn hm hE
  go_enter Tryz.func16, Tryz.ntmps16
  go_wp2_with fail
  go_ret
  exact ⟨by rw [HE.out]; rfl, Below.refl _ _⟩
end Go.Proofs.YtlimaehdmcnjaaaGreatDoor
namespace Go.Proofs.YtlimaehdmcnjaaaGreatDoor
open Go.RowKit
open Go.Lib (decDigits nDigits)
theorem conv_d0 (w : World) : (convert 21 9 (.int .i32 48)).run Tryz.prog w = .ok (.string ⟨#[48]⟩) w := by kernel_rfl
theorem conv_d1 (w : World) : (convert 21 9 (.int .i32 49)).run Tryz.prog w = .ok (.string ⟨#[49]⟩) w := by kernel_rfl
theorem conv_d2 (w : World) : (convert 21 9 (.int .i32 50)).run Tryz.prog w = .ok (.string ⟨#[50]⟩) w := by kernel_rfl
theorem conv_d3 (w : World) : (convert 21 9 (.int .i32 51)).run Tryz.prog w = .ok (.string ⟨#[51]⟩) w := by kernel_rfl
theorem conv_d4 (w : World) : (convert 21 9 (.int .i32 52)).run Tryz.prog w = .ok (.string ⟨#[52]⟩) w := by kernel_rfl
theorem conv_d5 (w : World) : (convert 21 9 (.int .i32 53)).run Tryz.prog w = .ok (.string ⟨#[53]⟩) w := by kernel_rfl
theorem conv_d6 (w : World) : (convert 21 9 (.int .i32 54)).run Tryz.prog w = .ok (.string ⟨#[54]⟩) w := by kernel_rfl
theorem conv_d7 (w : World) : (convert 21 9 (.int .i32 55)).run Tryz.prog w = .ok (.string ⟨#[55]⟩) w := by kernel_rfl
theorem conv_d8 (w : World) : (convert 21 9 (.int .i32 56)).run Tryz.prog w = .ok (.string ⟨#[56]⟩) w := by kernel_rfl
theorem conv_d9 (w : World) : (convert 21 9 (.int .i32 57)).run Tryz.prog w = .ok (.string ⟨#[57]⟩) w := by kernel_rfl
theorem conv_digit (d : Nat) (h : d < 10) (w : World) : (convert 21 9 (.int .i32 (((48 + d : Nat)) : Int))).run Tryz.prog w = .ok (.string ⟨[UInt8.ofNat (48 + d)].toArray⟩) w := by
 obtain rfl | rfl | rfl | rfl | rfl | rfl | rfl | rfl | rfl | rfl : d = 0 ∨ d = 1 ∨ d = 2 ∨ d = 3 ∨ d = 4 ∨ d = 5 ∨ d = 6 ∨ d = 7 ∨ d = 8 ∨ d = 9 := by omega
 ·exact conv_d0 w
 ·exact conv_d1 w
 ·exact conv_d2 w
 ·exact conv_d3 w
 ·exact conv_d4 w
 ·exact conv_d5 w
 ·exact conv_d6 w
 ·exact conv_d7 w
 ·exact conv_d8 w
 ·exact conv_d9 w
theorem r1_FromInt (w : World) (n : Nat) (h : n ≤ 9223372036854775807) : Calls Tryz.prog 71 #[.int .i64 n] w fun e w' => e = .returned (.tuple #[numV n, .int .i64 0]) ∧ w = w' := by
 have hd20 := hid (show nDigits n ≤ 19 from nDigits_le (by omega) (by omega))
 go_enter Tryz.func71, Tryz.ntmps71
 go_wp2_with fail
 go_loop [0, 4] (fun nn ss => ∃ (m : Nat) (l : List UInt8), nn = .int .i64 m ∧ m ≤ 9223372036854775807 ∧ ss = .string ⟨l.toArray⟩ ∧ l.length ≤ 19 ∧ Hid (decDigits n = decDigits m ++ l)) (fun nn _ => (intOf nn).toNat)
 case atStart => exact ⟨n, [], rfl, h, rfl, by simp, by simp [Hid]⟩
 case round =>
  obtain ⟨m, l, rfl, hm, rfl, hl, hd⟩ := hrel
  have hc := conv_digit (m % 10) (by omega)
  have hz : (((48 + m % 10 : Nat)) : Int) = 48 + (m : Int) % 10 := by omega
  rw [hz] at hc
  by_cases h9 : 9 < m
  ·have q1 : decide ((9 : Int) < (m : Int)) = true := by simp; omega
   have hdm := hid (decDigits_big (u := m) (by omega))
   have hl19 : l.length + 1 ≤ 19 := by
    have h1 := congrArg List.length hd.out
    rw [List.length_append, Go.Lib.decDigits_length] at h1
    have h2 := hd20.out
    have h3 := dec_length_pos m
    omega
   clear hz
   go_wp2_with fail
   go_round
   case rel => exact ⟨m / 10, UInt8.ofNat (48 + m % 10) :: l, by go_num, by omega, by simp [Go.ByteArray.mk_append_mk], by simpa using hl19, by rw [Hid, hd.out, hdm.out]; simp⟩
   case measure => simp [intOf] <;> omega
  ·have q1 : decide ((9 : Int) < (m : Int)) = false := by simp; omega
   have hm9 : m < 10 := by omega
   have hdm := hid (decDigits_small hm9)
   have hmm : m % 10 = m := Nat.mod_eq_of_lt hm9
   rw [hmm] at hc
   have hmI : (48 + (m : Int) % 10) = 48 + (m : Int) := by omega
   rw [hmI] at hc
   clear hz hmm hmI h9
   go_wp2_with fail
   go_ret2
   refine ⟨ret_pair ?_ rfl, rfl⟩
   rw [numV, hd.out, hdm.out]
   simp [Go.ByteArray.mk_append_mk]
theorem r2_Int (w : World) (n : Nat) (h : n ≤ 9223372036854775807) : Calls Tryz.prog 24 #[.int .i64 n] w fun e w' => e = .returned (.string (numB n)) ∧ w = w' := by
 have q0 : decide ((0 : Int) ≤ (n : Int)) = true := by simp
 go_enter Tryz.func24, Tryz.ntmps24
 go_wp2_with fail
 refine (r1_FromInt _ n h).mono ?_; rintro e w1 ⟨rfl, rfl⟩
 rw [numV_eq]
 go_wp2_with fail
 go_ret
 exact ⟨rfl, rfl⟩
theorem r2_Check (w : World) (s : ByteArray) (hs : s.size ≤ 1000000) : Calls Tryz.prog 36 #[.string s] w fun e w' => e = .returned (.int .i64 (qE s)) ∧ Below w.heap.size w w' := by
 have R1 := fun V => hid (r2_Read V s hs)
 clear hs
 go_enter Tryz.func36, Tryz.ntmps36
 go_wp2_with fail
 refine (R1 _).out.mono ?_; rintro e w1 ⟨hr1, hb1⟩
 obtain ⟨m, a, n, c, a', n', c', rfl, h1, h2⟩ := hr1.open
 obtain ⟨x, hx⟩ : ∃ x, qE s = x := ⟨_, rfl⟩
 have HX := hid hx
 rw [hx]
 have y2 := hid (hb1.alloc hb1.size (.cells #[.bool m, .slice a n c, .slice a' n' c'] 79))
 clear h1 h2 hr1 hb1 hx R1
 go_wp2_with fail
 go_ret
 exact ⟨by rw [HX.out]; rfl, y2.out⟩
theorem r2_CheckX (w : World) (s : ByteArray) (hs : s.size ≤ 9223372036854775807) (hl : 1000000 < s.size) : Calls Tryz.prog 36 #[.string s] w fun e w' => e = .returned (.int .i64 (qE s)) ∧ Below w.heap.size w w' := by
 have R1 := fun V => hid (r2_ReadX V s hs hl)
 clear hs hl
 go_enter Tryz.func36, Tryz.ntmps36
 go_wp2_with fail
 refine (R1 _).out.mono ?_; rintro e w1 ⟨rfl, hb1⟩
 obtain ⟨x, hx⟩ : ∃ x, qE s = x := ⟨_, rfl⟩
 have HX := hid hx
 rw [hx]
 have y2 := hid (hb1.alloc hb1.size (.cells #[.bool false, .slice none 0 0, .slice none 0 0] 79))
 clear hb1 hx R1
 go_wp2_with fail
 go_ret
 exact ⟨by rw [HX.out]; rfl, y2.out⟩
theorem r2_CheckA (w : World) (s : ByteArray) (hs : s.size ≤ 9223372036854775807) : Calls Tryz.prog 36 #[.string s] w fun e w' => e = .returned (.int .i64 (qE s)) ∧ Below w.heap.size w w' := by
 by_cases h : s.size ≤ 1000000
 ·exact r2_Check w s h
 ·exact r2_CheckX w s hs (by omega)
theorem r2_Sub (w : World) (s t : ByteArray) (hs : s.size ≤ 1000000) (ht : t.size ≤ 1000000) :
 Calls Tryz.prog 22 #[.string s, .string t] w fun e w' => e = .returned (.tuple #[.string (op2B (· - ·) s t), .int .i64 (op2E (· - ·) s t)]) ∧ Below w.heap.size w w' := by
 have R1 := fun V => hid (r2_two V s t hs ht)
 clear hs ht
 by_cases h0 : qE s = 0 ∧ qE t = 0
 ·have eB : op2B (· - ·) s t = outB (vQ s + -vQ t) := by rw [op2B, if_pos h0, Rat.sub_eq_add_neg]
  have eE : op2E (· - ·) s t = outE (vQ s + -vQ t) := by rw [op2E, if_pos h0.1, if_pos h0.2, Rat.sub_eq_add_neg]
  rw [eB, eE]
  have ds := dig_of_fits (vQ_fits h0.1)
  have dt := dig_neg (dig_of_fits (vQ_fits h0.2))
  have dl := hid ((dig_add ds dt).limbs (L := 1000000) (by omega) (by omega))
  have HO := fun V v u hp hq => hid (op_plus V v u (vQ s) (-vQ t) hp hq ds dt)
  have HG := fun V v h => hid (r2_Negative V v (vQ t) h)
  have HW := fun V v h => hid (r2_Write V v (vQ s + -vQ t) h dl.out.1 dl.out.2)
  obtain ⟨oB, hB⟩ : ∃ x, outB (vQ s + -vQ t) = x := ⟨_, rfl⟩
  obtain ⟨oE, hE⟩ : ∃ x, outE (vQ s + -vQ t) = x := ⟨_, rfl⟩
  rw [hB, hE] at HW
  rw [hB, hE]
  have H0 := hid h0
  clear eB eE ds dt dl hB hE h0
  go_enter Tryz.func22, Tryz.ntmps22
  go_wp2_with fail
  refine (R1 _).out.mono ?_; rintro e w1 ⟨⟨m, a, n, c, a', n', c', m2, b, j, d, b', j', d', rfl, hq⟩, hb1⟩
  obtain ⟨q1, q2⟩ := hq H0.out.1 H0.out.2
  rw [if_pos H0.out.1, H0.out.2]
  have b0 := hid (((Below.refl w1.heap.size w1).alloc (Nat.le_refl _) (.cells #[.bool m, .slice a n c, .slice a' n' c'] 79)).alloc (by simp) (.cells #[.bool m2, .slice b j d, .slice b' j' d'] 79))
  have Y0 := hid ((Blk.new w1 #[.bool m, .slice a n c, .slice a' n' c'] 79).alloc (.cells #[.bool m2, .slice b j d, .slice b' j' d'] 79))
  have Y1 := hid (Blk.made (w1.alloc (.cells #[.bool m, .slice a n c, .slice a' n' c'] 79)) #[.bool m2, .slice b j d, .slice b' j' d'] 79 (n := w1.heap.size + 1) (by simp))
  have y2 := hid (bnext hb1 b0.out)
  have Q1 := hid (q1.call b0.out); have Q2 := hid (q2.call b0.out)
  clear hb1 q1 q2 hq R1
  go_wp2_with fail
  obtain ⟨W, hW⟩ : ∃ W, (w1.alloc (.cells #[.bool m, .slice a n c, .slice a' n' c'] 79)).alloc (.cells #[.bool m2, .slice b j d, .slice b' j' d'] 79) = W := ⟨_, rfl⟩
  rw [hW] at Y0 Y1 y2 Q1 Q2 ⊢
  have KK : Hid (∀ w', Below W.heap.size W w' → w'.cell? ⟨w1.heap.size, 0, none⟩ = some (.bool m) ∧ w'.cell? ⟨w1.heap.size, 1, none⟩ = some (.slice a n c) ∧ w'.cell? ⟨w1.heap.size, 2, none⟩ = some (.slice a' n' c') ∧ w'.cell? ⟨w1.heap.size + 1, 0, none⟩ = some (.bool m2) ∧ w'.cell? ⟨w1.heap.size + 1, 1, none⟩ = some (.slice b j d) ∧ w'.cell? ⟨w1.heap.size + 1, 2, none⟩ = some (.slice b' j' d')) := fun w' hb =>
   ⟨(Y0.out.call hb).cell 0, (Y0.out.call hb).cell 1, (Y0.out.call hb).cell 2, (Y1.out.call hb).cell 0, (Y1.out.call hb).cell 1, (Y1.out.call hb).cell 2⟩
  clear b0 hW
  refine held_plain [0, 1] 7 (fun w' => w'.cell? ⟨w1.heap.size, 0, none⟩ = some (.bool m) ∧ w'.cell? ⟨w1.heap.size, 1, none⟩ = some (.slice a n c) ∧ w'.cell? ⟨w1.heap.size, 2, none⟩ = some (.slice a' n' c') ∧ w'.cell? ⟨w1.heap.size + 1, 0, none⟩ = some (.bool m2) ∧ w'.cell? ⟨w1.heap.size + 1, 1, none⟩ = some (.slice b j d) ∧ w'.cell? ⟨w1.heap.size + 1, 2, none⟩ = some (.slice b' j' d')) (by kernel_rfl) (by kernel_rfl) (by kernel_rfl) (by kernel_rfl) (KK.out _ (Below.refl _ _).drew) ?_
  iterate 2
   refine ⟨_, rfl, ?_⟩
   apply Exists.intro
   refine ⟨.inl ⟨by rfl, ?_⟩, ?_⟩
   ·(intro W' hW'; obtain ⟨q1, q2, q3, q4, q5, q6⟩ := hW'; go_simp; try (with_reducible rfl))
   (dsimp only [Act.put]; try simp only [List.setIfInBounds_toArray, List.set_cons_zero, List.set_cons_succ])
  refine held_one (i := 2) (by kernel_rfl) (by rfl) (by rfl) ?_
  go_wp2_with fail
  refine (HG _ _ (Q2.out.call (Below.refl _ _).drew)).out.mono ?_; rintro e w3 ⟨⟨v3, rfl, hv3⟩, hb3⟩
  have x3 := hid (show Below W.heap.size W w3 from (Below.refl _ _).drew.trans hb3)
  have N3 := hid hv3
  obtain ⟨m5, a5, n5, c5, a6, n6, c6, rfl⟩ := hv3.qv
  clear hb3 hv3
  go_wp2_with fail
  refine ⟨KK.out _ x3.out, ?_⟩
  refine held_one (i := 3) (by kernel_rfl) (by rfl) (by rfl) ?_
  go_wp2_with fail
  refine (HO _ _ _ (Q1.out.call x3.out) N3.out).out.mono ?_; rintro e w4 ⟨⟨v4, rfl, hv4⟩, hb4⟩
  have x4 := hid (bnext x3.out hb4)
  have N4 := hid hv4
  obtain ⟨m7, a7, n7, c7, a8, n8, c8, rfl⟩ := hv4.qv
  clear hb4 hv4
  go_wp2_with fail
  refine ⟨KK.out _ x4.out, ?_⟩
  refine held_one (i := 4) (by kernel_rfl) (by rfl) (by rfl) ?_
  go_wp2_with fail
  refine (HW _ _ N4.out).out.mono ?_; rintro e w5 ⟨rfl, hb5⟩
  have x5 := hid (bnext x4.out hb5)
  clear hb5
  go_wp2_with fail
  refine ⟨KK.out _ x5.out, ?_⟩
  refine held_more (is := [5, 6, 7, 8]) (g := 0) (by kernel_rfl) rfl (KK.out _ x5.out) (by kernel_rfl) ?_
  iterate 4
   refine ⟨_, rfl, ?_⟩
   apply Exists.intro
   refine ⟨.inl ⟨by rfl, ?_⟩, ?_⟩
   ·(intro W' hW'; obtain ⟨q1, q2, q3, q4, q5, q6⟩ := hW'; go_simp; try (with_reducible rfl))
   (dsimp only [Act.put]; try simp only [List.setIfInBounds_toArray, List.set_cons_zero, List.set_cons_succ])
  refine wpAnyH_done (by kernel_rfl) ?_ _
  simp only [Only]
  go_wp2_with fail
  go_ret2
  exact ⟨rfl, bnext y2.out x5.out⟩
 ·obtain ⟨n0, eB, eE⟩ := op2_err (f := (· - ·)) h0
  rw [eB, eE]
  obtain ⟨x, hx⟩ : ∃ x, (if qE s = 0 then qE t else qE s) = x := ⟨_, rfl⟩
  rw [hx] at n0 ⊢
  have q0 : (x != 0) = true := by simpa using n0
  have HX := hid hx
  clear h0 n0 eB eE hx
  go_enter Tryz.func22, Tryz.ntmps22
  go_wp2_with fail
  refine (R1 _).out.mono ?_; rintro e w1 ⟨⟨m, a, n, c, a', n', c', m2, b, j, d, b', j', d', rfl, -⟩, hb1⟩
  rw [HX.out]
  have y2 := hid ((hb1.alloc hb1.size (.cells #[.bool m, .slice a n c, .slice a' n' c'] 79)).alloc (Nat.le_trans hb1.size (by simp)) (.cells #[.bool m2, .slice b j d, .slice b' j' d'] 79))
  clear hb1
  go_wp2_with fail
  go_ret2
  exact ⟨rfl, y2.out⟩
theorem r2_Order (w : World) (v u : Value) (p q : Rat) (hp : IsQ .i64 w v p) (hq : IsQ .i64 w u q) (dp : Dig 4000 p) (dq : Dig 4000 q) :
 Calls Tryz.prog 78 #[v, u] w fun e w' => e = .returned (.int .i64 (ordQ p q)) ∧ Below w.heap.size w w' := by
 have HO := fun V v u hp hq => hid (op_plus V v u p (-q) hp hq dp (dig_neg dq))
 have HG := fun V v h => hid (r2_Negative V v q h)
 have HP := hid hp; have HQ := hid hq
 obtain ⟨m, a, n, c, a', n', c', rfl⟩ := hp.qv
 obtain ⟨m2, b, j, d, b', j', d', rfl⟩ := hq.qv
 rw [show ordQ p q = sgnQ (p + -q) by rw [ordQ, Rat.sub_eq_add_neg]]
 obtain ⟨z, hz⟩ : ∃ z, p + -q = z := ⟨_, rfl⟩
 simp only [hz] at HO
 rw [hz]
 clear hp hq dp dq hz
 go_enter Tryz.func78, Tryz.ntmps78
 go_upto_region 1 with fail
 obtain ⟨W, hW⟩ : ∃ W, (w.alloc (.cells #[.bool m, .slice a n c, .slice a' n' c'] 79)).alloc (.cells #[.bool m2, .slice b j d, .slice b' j' d'] 79) = W := ⟨_, rfl⟩
 have Y0 : Blk W w.heap.size #[.bool m, .slice a n c, .slice a' n' c'] 79 := by rw [← hW]; exact (Blk.new w _ _).alloc _
 have Y1 : Blk W (w.heap.size + 1) #[.bool m2, .slice b j d, .slice b' j' d'] 79 := by rw [← hW]; exact Blk.made _ _ _ (by simp)
 have y0 : Below w.heap.size w W := by rw [← hW]; exact ((Below.refl _ _).alloc (Nat.le_refl _) _).alloc (by simp) _
 rw [hW]
 have KK : Hid (∀ w', Below W.heap.size W w' → w'.cell? ⟨w.heap.size, 0, none⟩ = some (.bool m) ∧ w'.cell? ⟨w.heap.size, 1, none⟩ = some (.slice a n c) ∧ w'.cell? ⟨w.heap.size, 2, none⟩ = some (.slice a' n' c') ∧ w'.cell? ⟨w.heap.size + 1, 0, none⟩ = some (.bool m2) ∧ w'.cell? ⟨w.heap.size + 1, 1, none⟩ = some (.slice b j d) ∧ w'.cell? ⟨w.heap.size + 1, 2, none⟩ = some (.slice b' j' d')) := fun w' hb =>
  ⟨(Y0.call hb).cell 0, (Y0.call hb).cell 1, (Y0.call hb).cell 2, (Y1.call hb).cell 0, (Y1.call hb).cell 1, (Y1.call hb).cell 2⟩
 have Q1 := hid (HP.out.call y0); have Q2 := hid (HQ.out.call y0)
 have HY := hid y0
 clear Y0 Y1 y0 hW
 go_cut [5] (fun s5 wx => ∃ (g : Nat) (a5 : Option Addr) (n5 c5 : Nat) (a6 : Option Addr) (n6 c6 : Nat), s5 = .pointer (some ⟨g, 0, none⟩) ∧ Hid (Blk wx g #[.bool (decide (z.num < 0)), .slice a5 n5 c5, .slice a6 n6 c6] 79) ∧ Hid (n5 = (limbs z.num.natAbs).length) ∧ Hid (Below W.heap.size W wx))
 case first =>
  refine held_plain [0, 1] 4 (fun w' => w'.cell? ⟨w.heap.size, 0, none⟩ = some (.bool m) ∧ w'.cell? ⟨w.heap.size, 1, none⟩ = some (.slice a n c) ∧ w'.cell? ⟨w.heap.size, 2, none⟩ = some (.slice a' n' c') ∧ w'.cell? ⟨w.heap.size + 1, 0, none⟩ = some (.bool m2) ∧ w'.cell? ⟨w.heap.size + 1, 1, none⟩ = some (.slice b j d) ∧ w'.cell? ⟨w.heap.size + 1, 2, none⟩ = some (.slice b' j' d')) (by kernel_rfl) (by kernel_rfl) (by kernel_rfl) (by kernel_rfl) (KK.out _ (Below.refl _ _).drew) ?_
  iterate 2
   refine ⟨_, rfl, ?_⟩
   apply Exists.intro
   refine ⟨.inl ⟨by rfl, ?_⟩, ?_⟩
   ·(intro W' hW'; obtain ⟨q1, q2, q3, q4, q5, q6⟩ := hW'; go_simp; try (with_reducible rfl))
   (dsimp only [Act.put]; try simp only [List.setIfInBounds_toArray, List.set_cons_zero, List.set_cons_succ])
  refine held_two (i := 2) (j := 4) (by kernel_rfl) (by rfl) (by rfl) (by rfl) (by rfl) ?_ ?_
  ·go_wp2_with fail
   refine (HG _ _ (Q2.out.call (Below.refl _ _).drew)).out.mono ?_; rintro e w3 ⟨⟨v3, rfl, hv3⟩, hb3⟩
   have x3 := hid (show Below W.heap.size W w3 from (Below.refl _ _).drew.trans hb3)
   have N3 := hid hv3
   obtain ⟨m5, a5, n5, c5, a6, n6, c6, rfl⟩ := hv3.qv
   clear hb3 hv3
   go_wp2_with fail
   refine ⟨KK.out _ x3.out, ?_⟩
   refine held_two (i := 3) (j := 4) (by kernel_rfl) (by rfl) (by rfl) (by rfl) (by rfl) ?_ ?_
   ·go_wp2_with fail
    refine (HO _ _ _ (Q1.out.call x3.out) N3.out).out.mono ?_; rintro e w4 ⟨⟨v4, rfl, hv4⟩, hb4⟩
    have x4 := hid (bnext x3.out hb4)
    obtain ⟨N, D, rfl, h1, h2⟩ := hv4.ex
    obtain ⟨a7, c7, rfl, -⟩ := h1.openI
    obtain ⟨a8, c8, rfl, -⟩ := h2.openI
    clear hb4 hv4 h1 h2
    go_wp2_with fail
    refine ⟨KK.out _ x4.out, ?_⟩
    refine held_one (i := 4) (by kernel_rfl) (by rfl) (by rfl) ?_
    go_wp2_with fail
    refine ⟨KK.out _ (x4.out.alloc x4.out.size _), ?_⟩
    refine held_one (i := 5) (by kernel_rfl) (by rfl) (by rfl) ?_
    go_wp2_with fail
    refine ⟨KK.out _ (x4.out.alloc x4.out.size _), ?_⟩
    refine wpAnyH_done (by kernel_rfl) ?_ _
    simp only [Only]
    go_wp2_with fail
    go_meet
    exact ⟨_, _, _, _, _, _, _, rfl, Blk.new w4 _ _, rfl, x4.out.alloc x4.out.size _⟩
   ·go_wp2_with fail
    have A3 := hid (x3.out.alloc x3.out.size (.cells #[.bool false, .slice none 0 0, .slice none 0 0] 79))
    have b3 := hid (Blk.new w3 #[.bool false, .slice none 0 0, .slice none 0 0] 79)
    have n3 := hid (N3.out.call ((Below.refl _ _).alloc (Nat.le_refl _) (.cells #[.bool false, .slice none 0 0, .slice none 0 0] 79)))
    refine ⟨KK.out _ A3.out, ?_⟩
    refine held_one (i := 3) (by kernel_rfl) (by rfl) (by rfl) ?_
    go_wp2_with fail
    refine (HO _ _ _ (Q1.out.call A3.out) n3.out).out.mono ?_; rintro e w4 ⟨⟨v4, rfl, hv4⟩, hb4⟩
    have x4 := hid (bnext A3.out hb4)
    have b4 := hid (b3.out.call hb4)
    obtain ⟨N, D, rfl, h1, h2⟩ := hv4.ex
    obtain ⟨a7, c7, rfl, -⟩ := h1.openI
    obtain ⟨a8, c8, rfl, -⟩ := h2.openI
    have t0 := b4.out.cell 0
    have t1 := b4.out.cell 1
    have t2 := b4.out.cell 2
    have t3 := b4.out.free 0
    have t4 := b4.out.free 1
    have t5 := b4.out.free 2
    simp at t0 t1 t2
    have ge := hid (show W.heap.size ≤ w3.heap.size from x3.out.size)
    obtain ⟨k7, hk7⟩ : ∃ k, (limbs z.num.natAbs).length = k := ⟨_, rfl⟩
    obtain ⟨k8, hk8⟩ : ∃ k, (limbs z.den).length = k := ⟨_, rfl⟩
    obtain ⟨mz, hmz⟩ : ∃ m, decide (z.num < 0) = m := ⟨_, rfl⟩
    rw [hk7, hk8, hmz]
    have HK7 := hid hk7; have HMZ := hid hmz
    clear hb4 hv4 h1 h2 hk7 hk8 hmz
    go_wp2_with fail
    refine ⟨KK.out _ x4.out, ?_⟩
    refine held_one (i := 5) (by kernel_rfl) (by rfl) (by rfl) ?_
    go_wp2_with fail
    obtain ⟨s1, s2⟩ := set3 b4.out mz a7 a8 k7 c7 k8 c8
    have x5 := hid (below_set (below_set (below_set x4.out (i := 0) ge.out (.bool mz)) (i := 1) ge.out (.slice a7 k7 c7)) (i := 2) ge.out (.slice a8 k8 c8))
    have S2 := hid s2
    clear s1 s2 t0 t1 t2 t3 t4 t5
    refine ⟨KK.out _ x5.out, ?_⟩
    refine wpAnyH_done (by kernel_rfl) ?_ _
    simp only [Only]
    go_wp2_with fail
    go_meet
    exact ⟨_, _, _, _, _, _, _, rfl, by rw [HMZ.out]; exact S2, HK7.out.symm, x5⟩
  ·go_wp2_with fail
   have A0 := hid (show Below W.heap.size W (W.alloc (.cells #[.bool false, .slice none 0 0, .slice none 0 0] 79)).drew from ((Below.refl _ _).alloc (Nat.le_refl _) _).drew)
   have b0 := hid (show Blk (W.alloc (.cells #[.bool false, .slice none 0 0, .slice none 0 0] 79)).drew W.heap.size #[.bool false, .slice none 0 0, .slice none 0 0] 79 from Blk.new W _ _)
   refine ⟨KK.out _ A0.out, ?_⟩
   refine held_one (i := 2) (by kernel_rfl) (by rfl) (by rfl) ?_
   go_wp2_with fail
   refine (HG _ _ (Q2.out.call A0.out)).out.mono ?_; rintro e w3 ⟨⟨v3, rfl, hv3⟩, hb3⟩
   have x3 := hid (A0.out.trans (hb3.mono A0.out.size))
   have b3 := hid (b0.out.call hb3)
   have N3 := hid hv3
   obtain ⟨m5, a5, n5, c5, a6, n6, c6, rfl⟩ := hv3.qv
   clear hb3 hv3
   go_wp2_with fail
   refine ⟨KK.out _ x3.out, ?_⟩
   refine held_one (i := 3) (by kernel_rfl) (by rfl) (by rfl) ?_
   go_wp2_with fail
   refine (HO _ _ _ (Q1.out.call x3.out) N3.out).out.mono ?_; rintro e w4 ⟨⟨v4, rfl, hv4⟩, hb4⟩
   have x4 := hid (bnext x3.out hb4)
   have b4 := hid (b3.out.call hb4)
   obtain ⟨N, D, rfl, h1, h2⟩ := hv4.ex
   obtain ⟨a7, c7, rfl, -⟩ := h1.openI
   obtain ⟨a8, c8, rfl, -⟩ := h2.openI
   have t0 := b4.out.cell 0
   have t1 := b4.out.cell 1
   have t2 := b4.out.cell 2
   have t3 := b4.out.free 0
   have t4 := b4.out.free 1
   have t5 := b4.out.free 2
   simp at t0 t1 t2
   have ge := hid (Nat.le_refl W.heap.size)
   obtain ⟨k7, hk7⟩ : ∃ k, (limbs z.num.natAbs).length = k := ⟨_, rfl⟩
   obtain ⟨k8, hk8⟩ : ∃ k, (limbs z.den).length = k := ⟨_, rfl⟩
   obtain ⟨mz, hmz⟩ : ∃ m, decide (z.num < 0) = m := ⟨_, rfl⟩
   rw [hk7, hk8, hmz]
   have HK7 := hid hk7; have HMZ := hid hmz
   clear hb4 hv4 h1 h2 hk7 hk8 hmz
   go_wp2_with fail
   refine ⟨KK.out _ x4.out, ?_⟩
   refine held_one (i := 5) (by kernel_rfl) (by rfl) (by rfl) ?_
   go_wp2_with fail
   obtain ⟨s1, s2⟩ := set3 b4.out mz a7 a8 k7 c7 k8 c8
   have x5 := hid (below_set (below_set (below_set x4.out (i := 0) ge.out (.bool mz)) (i := 1) ge.out (.slice a7 k7 c7)) (i := 2) ge.out (.slice a8 k8 c8))
   have S2 := hid s2
   clear s1 s2 t0 t1 t2 t3 t4 t5
   refine ⟨KK.out _ x5.out, ?_⟩
   refine wpAnyH_done (by kernel_rfl) ?_ _
   simp only [Only]
   go_wp2_with fail
   go_meet
   exact ⟨_, _, _, _, _, _, _, rfl, by rw [HMZ.out]; exact S2, HK7.out.symm, x5⟩
 case rest =>
  obtain ⟨g, a5, n5, c5, a6, n6, c6, rfl, hB, hn, hW⟩ := hcut
  have r0 := hB.out.cell 0
  have r1 := hB.out.cell 1
  simp at r0 r1
  have yz := hid (bnext HY.out hW.out)
  by_cases h1 : z.num = 0
  ·have es : Hid (sgnQ z = 0) := by show sgnQ z = 0; rw [sgnQ, if_pos h1]
   obtain rfl : n5 = 0 := by rw [hn.out, h1]; exact limbs_none.2 rfl
   clear h1
   go_wp2_with fail
   go_ret
   exact ⟨by rw [es.out]; rfl, yz.out⟩
  ·have h2 : n5 ≠ 0 := fun e => h1 (by rw [hn.out] at e; have := limbs_none.1 e; omega)
   have q1 : ((n5 : Int) == 0) = false := by simp; omega
   obtain ⟨mm, hmm⟩ : ∃ m, decide (z.num < 0) = m := ⟨_, rfl⟩
   have es : sgnQ z = if mm = true then -1 else 1 := by
    rw [sgnQ, if_neg h1, ← hmm]; simp
   have ES := hid es
   rw [hmm] at r0
   clear h1 h2 es hmm
   cases mm
   all_goals
    go_wp2_with fail
    go_ret
    exact ⟨by rw [ES.out]; rfl, yz.out⟩
theorem r2_Cmp (w : World) (s t : ByteArray) (hs : s.size ≤ 1000000) (ht : t.size ≤ 1000000) :
 Calls Tryz.prog 26 #[.string s, .string t] w fun e w' => e = .returned (.tuple #[.int .i64 (cmB s t), .int .i64 (cmE s t)]) ∧ Below w.heap.size w w' := by
 have R1 := fun V => hid (r2_two V s t hs ht)
 clear hs ht
 by_cases h0 : qE s = 0 ∧ qE t = 0
 ·have eB : cmB s t = ordQ (vQ s) (vQ t) := by rw [cmB, if_pos h0]
  have eE : cmE s t = 0 := by rw [cmE, if_pos h0.1, h0.2]
  rw [eB, eE]
  have ds := dig_of_fits (vQ_fits h0.1)
  have dt := dig_of_fits (vQ_fits h0.2)
  have HO := fun V v u hp hq => hid (r2_Order V v u (vQ s) (vQ t) hp hq ds dt)
  obtain ⟨o, ho⟩ : ∃ x, ordQ (vQ s) (vQ t) = x := ⟨_, rfl⟩
  rw [ho] at HO ⊢
  have H0 := hid h0
  clear eB eE ds dt ho h0
  go_enter Tryz.func26, Tryz.ntmps26
  go_wp2_with fail
  refine (R1 _).out.mono ?_; rintro e w1 ⟨⟨m, a, n, c, a', n', c', m2, b, j, d, b', j', d', rfl, hq⟩, hb1⟩
  obtain ⟨q1, q2⟩ := hq H0.out.1 H0.out.2
  rw [if_pos H0.out.1, H0.out.2]
  have b0 := ((Below.refl w1.heap.size w1).alloc (Nat.le_refl _) (.cells #[.bool m, .slice a n c, .slice a' n' c'] 79)).alloc (by simp) (.cells #[.bool m2, .slice b j d, .slice b' j' d'] 79)
  have y2 := hid (bnext hb1 b0)
  have H1 := HO _ _ _ (q1.call b0) (q2.call b0)
  clear hb1 q1 q2 hq b0 HO R1
  go_wp2_with fail
  refine H1.out.mono ?_; rintro e w2 ⟨rfl, hb2⟩
  have y3 := hid (bnext y2.out hb2)
  clear hb2 H1
  go_wp2_with fail
  go_ret2
  exact ⟨rfl, y3.out⟩
 ·obtain ⟨n0, -, -⟩ := op2_err (f := (· - ·)) h0
  rw [cmB, if_neg h0, cmE]
  obtain ⟨x, hx⟩ : ∃ x, (if qE s = 0 then qE t else qE s) = x := ⟨_, rfl⟩
  rw [hx] at n0 ⊢
  have q0 : (x != 0) = true := by simpa using n0
  have HX := hid hx
  clear h0 n0 hx
  go_enter Tryz.func26, Tryz.ntmps26
  go_wp2_with fail
  refine (R1 _).out.mono ?_; rintro e w1 ⟨⟨m, a, n, c, a', n', c', m2, b, j, d, b', j', d', rfl, -⟩, hb1⟩
  rw [HX.out]
  have y2 := hid ((hb1.alloc hb1.size (.cells #[.bool m, .slice a n c, .slice a' n' c'] 79)).alloc (Nat.le_trans hb1.size (by simp)) (.cells #[.bool m2, .slice b j d, .slice b' j' d'] 79))
  clear hb1
  go_wp2_with fail
  go_ret2
  exact ⟨rfl, y2.out⟩
open Go.Shelf
theorem all_take {p : ByteArray → Bool} {l : List ByteArray} (h : ∀ (j : Nat) (x : ByteArray), j < l.length → l[j]? = some x → p x = true) : l.all p = true := by
 rw [List.all_eq_true]
 intro x hx
 obtain ⟨j, hj⟩ := List.getElem?_of_mem hx
 exact h j x (List.getElem?_eq_some_iff.1 hj).1 hj
theorem all_not {p : ByteArray → Bool} {l : List ByteArray} {x : ByteArray} (hx : x ∈ l) (h : p x = false) : l.all p = false := by
 cases e : l.all p
 ·rfl
 ·rw [List.all_eq_true] at e
  rw [e x hx] at h
  cases h
theorem w_light (w : World) (v : Value) (l : List ByteArray) (hv : Row w v (strs l)) :
 Calls Tryz.prog 31 #[v] w fun e w' => e = .returned (.bool (lightB l)) ∧ Below w.heap.size w w' := by
 obtain ⟨a, c, rfl, h1, h2, h3⟩ := hv.openS
 obtain ⟨n, hn⟩ : ∃ n, l.length = n := ⟨_, rfl⟩
 rw [hn] at h1 ⊢
 have H3 := hid h3; have HN := hid hn
 obtain ⟨B, hB12⟩ : ∃ B, decide (n ≤ 12) = B := ⟨_, rfl⟩
 have HB12 := hid hB12
 have q12 : decide ((n : Int) ≤ 12) = B := by rw [← hB12]; rw [Bool.eq_iff_iff, decide_eq_true_iff, decide_eq_true_iff]; omega
 clear hv h3 hn
 go_enter Tryz.func31, Tryz.ntmps31
 go_wp2_with fail
 go_loopw [3] (fun ii wr => ∃ i : Nat, ii = .int .i64 (i : Nat) ∧ i ≤ n ∧ Hid (∀ (j : Nat) (x : ByteArray), j < i → l[j]? = some x → x.size ≤ 20) ∧ Hid (Below w.heap.size w wr)) (fun ii wr => n - (intOf ii).toNat)
 case atStart => exact ⟨0, rfl, Nat.zero_le _, fun j x hj => absurd hj (by omega), Below.refl _ _⟩
 case round =>
  obtain ⟨i, rfl, hi, hI, hB⟩ := hrel
  by_cases hlt : i < n
  ·obtain ⟨x, hx⟩ : ∃ x, l[i]? = some x := ⟨_, List.getElem?_eq_getElem (by rw [HN.out]; exact hlt)⟩
   obtain ⟨g, o, rfl, hg, k1⟩ := H3.out i x hx
   have HX := hid hx
   have m1 := (hB.out.cell (p := ⟨g, o + i, none⟩) hg).trans k1
   have b1 : (0 : Int) ≤ (i : Int) := by omega
   have b2 : (i : Int) < (n : Int) := by omega
   have wi : IntKind.i64.wrap ((i : Int) + 1) = (i : Int) + 1 := by rw [IntWalk.i64_in _ ⟨by omega, by omega⟩]
   clear k1 hx hg hB12
   by_cases hs : x.size ≤ 20
   ·have q1 : decide ((20 : Int) < (x.size : Int)) = false := decide_eq_false (by omega)
    have HS := hid hs
    clear hs
    go_wp2_with fail
    go_roundw
    case rel => exact ⟨i + 1, rfl, by omega, fun j y hj hy => by
     rcases Nat.lt_or_ge j i with h | h
     ·exact hI.out j y h hy
     ·obtain rfl : j = i := by omega
      rw [HX.out] at hy
      cases hy
      exact HS.out, hB.out⟩
    case measure => simp [intOf] <;> omega
   ·have q1 : decide ((20 : Int) < (x.size : Int)) = true := decide_eq_true (by omega)
    have HS := hid hs
    clear hs
    go_wp2_with fail
    go_ret
    refine ⟨?_, hB.out⟩
    unfold lightB
    rw [all_not (List.mem_of_getElem? HX.out) (by exact decide_eq_false HS.out)]; rfl
  ·obtain rfl : i = n := by omega
   have q1 : decide ((i : Int) < (i : Int)) = false := by simp
   clear hlt hB12
   go_wp2_with fail
   go_ret
   refine ⟨?_, hB.out⟩
   unfold lightB
   rw [all_take (fun j x hj hx => by exact decide_eq_true (hI.out j x (by have := HN.out; omega) hx)), HN.out, HB12.out]; rfl
theorem w_valid (w : World) (v : Value) (l : List ByteArray) (hv : Row w v (strs l)) (hz : ∀ s ∈ l, s.size ≤ 9223372036854775807) :
 Calls Tryz.prog 10 #[v] w fun e w' => e = .returned (.bool (validB l)) ∧ Below w.heap.size w w' := by
 have HV := hid hv
 have PC := fun V s h => hid (r2_CheckA V s h)
 have PL := fun V u h => hid (w_light V u l h)
 obtain ⟨a, c, rfl, h1, h2, h3⟩ := hv.openS
 obtain ⟨n, hn⟩ : ∃ n, l.length = n := ⟨_, rfl⟩
 rw [hn] at h1 HV ⊢
 have H3 := hid h3; have HN := hid hn; have HZ := hid hz
 obtain ⟨L, hL⟩ : ∃ L, lightB l = L := ⟨_, rfl⟩
 have HLI := hid hL
 rw [hL] at PL
 obtain ⟨B, hB0⟩ : ∃ B, decide (0 < n) = B := ⟨_, rfl⟩
 have HB0 := hid hB0
 have q0 : decide ((0 : Int) < (n : Int)) = B := by rw [← hB0]; rw [Bool.eq_iff_iff, decide_eq_true_iff, decide_eq_true_iff]; omega
 clear hv h3 hn hz hL
 go_enter Tryz.func10, Tryz.ntmps10
 go_wp2_with fail
 go_loopw [3] (fun ii wr => ∃ i : Nat, ii = .int .i64 (i : Nat) ∧ i ≤ n ∧ Hid (∀ (j : Nat) (x : ByteArray), j < i → l[j]? = some x → qE x = 0) ∧ Hid (Below w.heap.size w wr)) (fun ii wr => n - (intOf ii).toNat)
 case atStart => exact ⟨0, rfl, Nat.zero_le _, fun j x hj => absurd hj (by omega), Below.refl _ _⟩
 case round =>
  obtain ⟨i, rfl, hi, hI, hB⟩ := hrel
  by_cases hlt : i < n
  ·obtain ⟨x, hx⟩ : ∃ x, l[i]? = some x := ⟨_, List.getElem?_eq_getElem (by rw [HN.out]; exact hlt)⟩
   obtain ⟨g, o, rfl, hg, k1⟩ := H3.out i x hx
   have HX := hid hx
   have PCx := fun V => PC V x (HZ.out x (List.mem_of_getElem? hx))
   have m1 := (hB.out.cell (p := ⟨g, o + i, none⟩) hg).trans k1
   have b1 : (0 : Int) ≤ (i : Int) := by omega
   have b2 : (i : Int) < (n : Int) := by omega
   have wi : IntKind.i64.wrap ((i : Int) + 1) = (i : Int) + 1 := by rw [IntWalk.i64_in _ ⟨by omega, by omega⟩]
   obtain ⟨E, hE⟩ : ∃ E, qE x = E := ⟨_, rfl⟩
   have HE := hid hE
   rw [hE] at PCx
   clear k1 hx hg hB0 hE
   by_cases hs : E = 0
   ·subst hs
    go_wp2_with fail
    refine (PCx _).out.mono ?_; rintro e w1 ⟨rfl, hb1⟩
    have y1 := hid hb1; clear hb1
    go_wp2_with fail
    go_roundw
    case rel => exact ⟨i + 1, rfl, by omega, fun j y hj hy => by
     rcases Nat.lt_or_ge j i with h | h
     ·exact hI.out j y h hy
     ·obtain rfl : j = i := by omega
      rw [HX.out] at hy
      cases hy
      exact HE.out, bnext hB.out y1.out⟩
    case measure => simp [intOf] <;> omega
   ·have q1 : (E == 0) = false := by simpa using hs
    have q2 : (E != 0) = true := by simpa using hs
    have HS := hid hs
    clear hs
    go_wp2_with fail
    refine (PCx _).out.mono ?_; rintro e w1 ⟨rfl, hb1⟩
    have y1 := hid hb1; clear hb1
    go_wp2_with fail
    go_ret
    refine ⟨?_, bnext hB.out y1.out⟩
    unfold validB
    rw [all_not (List.mem_of_getElem? HX.out) (by rw [HE.out]; exact decide_eq_false HS.out)]; rfl
  ·obtain rfl : i = n := by omega
   have q1 : decide ((i : Int) < (i : Int)) = false := by simp
   clear hlt hB0
   have KEY : Hid (validB l = (L && B)) := by
    show _ = _
    unfold validB
    rw [all_take (fun j x hj hx => by exact decide_eq_true (hI.out j x (by have := HN.out; omega) hx)), HLI.out, HN.out, HB0.out, Bool.true_and]
   cases L
   ·go_wp2_with fail
    refine (PL _ _ (HV.out.call hB.out)).out.mono ?_; rintro e w1 ⟨rfl, hb1⟩
    have y1 := hid hb1; clear hb1
    go_wp2_with fail
    go_ret
    exact ⟨by rw [KEY.out]; rfl, bnext hB.out y1.out⟩
   ·go_wp2_with fail
    refine (PL _ _ (HV.out.call hB.out)).out.mono ?_; rintro e w1 ⟨rfl, hb1⟩
    have y1 := hid hb1; clear hb1
    go_wp2_with fail
    go_ret
    exact ⟨by rw [KEY.out, ← HB0.out]; rfl, bnext hB.out y1.out⟩
theorem w_least (w : World) (s t : ByteArray) (hs : s.size ≤ 1000000) (ht : t.size ≤ 1000000) :
 Calls Tryz.prog 11 #[.string s, .string t] w fun e w' => e = .returned (.bool (lstB s t)) ∧ Below w.heap.size w w' := by
 have H := hid (r2_Cmp w s t hs ht)
 obtain ⟨R, hR⟩ : ∃ R, lstB s t = R := ⟨_, rfl⟩
 have HR := hid hR
 obtain ⟨B, hB⟩ : ∃ B, cmB s t = B := ⟨_, rfl⟩
 obtain ⟨E, hE⟩ : ∃ E, cmE s t = E := ⟨_, rfl⟩
 rw [hB, hE] at H
 unfold lstB at hR
 rw [hB, hE] at hR
 rw [HR.out]
 clear hB hE hs ht HR
 by_cases he : E = 0
 ·subst he
  rw [decide_eq_true rfl, Bool.true_and] at hR
  go_enter Tryz.func11, Tryz.ntmps11
  go_wp2_with fail
  refine H.out.mono ?_; rintro e w3 ⟨rfl, hb3⟩
  have y3 := hid hb3; clear hb3
  go_wp2_with fail
  go_ret
  exact ⟨by first | rfl | rw [hR], y3.out⟩
 ·have q1 : (E == 0) = false := by simpa using he
  rw [decide_eq_false he, Bool.false_and] at hR
  subst hR
  clear he
  go_enter Tryz.func11, Tryz.ntmps11
  go_wp2_with fail
  refine H.out.mono ?_; rintro e w3 ⟨rfl, hb3⟩
  have y3 := hid hb3; clear hb3
  go_wp2_with fail
  go_ret
  exact ⟨rfl, y3.out⟩
theorem o2_size (f : Rat → Rat → Rat) (s t : ByteArray) : (op2B f s t).size ≤ 10000 := by
 unfold op2B
 split
 ·unfold outB
  split
  ·exact Nat.zero_le _
  ·rename_i h
   exact tx_size h
 ·exact Nat.zero_le _
theorem sumB_size (l : List ByteArray) : (sumB l).size ≤ 10000 := by
 rcases List.eq_nil_or_concat l with rfl | ⟨r, p, rfl⟩
 ·show (1 : Nat) ≤ 10000
  omega
 ·rw [List.concat_eq_append, sumB_snoc]
  exact o2_size _ _ _
theorem w_sum (w : World) (v : Value) (l : List ByteArray) (hv : Row w v (strs l)) (hz : ∀ s ∈ l, s.size ≤ 1000000) :
 Calls Tryz.prog 13 #[v] w fun e w' => e = .returned (.string (sumB l)) ∧ Below w.heap.size w w' := by
 have PA := fun V s t h1 h2 => hid (r2_Add V s t h1 h2)
 obtain ⟨a, c, rfl, h1, h2, h3⟩ := hv.openS
 obtain ⟨n, hn⟩ : ∃ n, l.length = n := ⟨_, rfl⟩
 rw [hn] at h1 ⊢
 have H3 := hid h3; have HN := hid hn; have HZ := hid hz
 clear hv h3 hn hz
 go_enter Tryz.func13, Tryz.ntmps13
 go_wp2_with fail
 go_loopw [3, 4] (fun ss ii wr => ∃ i : Nat, ii = .int .i64 (i : Nat) ∧ i ≤ n ∧ Hid (ss = .string (sumB (l.take i))) ∧ Hid (Below w.heap.size w wr)) (fun ss ii wr => n - (intOf ii).toNat)
 case atStart => exact ⟨0, rfl, Nat.zero_le _, rfl, Below.refl _ _⟩
 case round =>
  obtain ⟨i, rfl, hi, hS, hB⟩ := hrel
  obtain rfl := hS.out
  clear hS
  by_cases hlt : i < n
  ·obtain ⟨x, hx⟩ : ∃ x, l[i]? = some x := ⟨_, List.getElem?_eq_getElem (by rw [HN.out]; exact hlt)⟩
   obtain ⟨g, o, rfl, hg, k1⟩ := H3.out i x hx
   have TK := hid (sumB_take hx)
   have TS := sumB_size (l.take i)
   obtain ⟨T, hT⟩ : ∃ T, sumB (l.take i) = T := ⟨_, rfl⟩
   rw [hT] at TS TK ⊢
   have PX := fun V => PA V T x (by omega) (HZ.out x (List.mem_of_getElem? hx))
   obtain ⟨R, hR⟩ : ∃ R, op2B (· + ·) T x = R := ⟨_, rfl⟩
   obtain ⟨E, hE⟩ : ∃ R, op2E (· + ·) T x = R := ⟨_, rfl⟩
   rw [hR] at TK PX
   rw [hE] at PX
   have m1 := (hB.out.cell (p := ⟨g, o + i, none⟩) hg).trans k1
   have b1 : (0 : Int) ≤ (i : Int) := by omega
   have b2 : (i : Int) < (n : Int) := by omega
   have wi : IntKind.i64.wrap ((i : Int) + 1) = (i : Int) + 1 := by rw [IntWalk.i64_in _ ⟨by omega, by omega⟩]
   clear k1 hx hg hT TS hR hE
   go_wp2_with fail
   refine (PX _).out.mono ?_; rintro e w1 ⟨rfl, hb1⟩
   have y1 := hid hb1; clear hb1
   go_wp2_with fail
   go_roundw
   case rel => exact ⟨i + 1, rfl, by omega, by show _ = _; rw [TK.out], bnext hB.out y1.out⟩
   case measure => simp [intOf] <;> omega
  ·obtain rfl : i = n := by omega
   have q1 : decide ((i : Int) < (i : Int)) = false := by simp
   have hT : l.take i = l := List.take_of_length_le (by rw [HN.out]; exact Nat.le_refl _)
   rw [hT]
   clear hlt hT
   go_wp2_with fail
   go_ret
   exact ⟨rfl, hB.out⟩
theorem dstB_size (a b : List ByteArray) : (dstB a b).size ≤ 10000 := by
 unfold dstB
 rcases List.eq_nil_or_concat (a.zip b) with e | ⟨r, p, e⟩
 ·rw [e]
  show (1 : Nat) ≤ 10000
  omega
 ·rw [e, List.concat_eq_append, List.foldl_append]
  exact o2_size _ _ _
theorem w_distance (w : World) (v u : Value) (l m : List ByteArray) (hv : Row w v (strs l)) (hu : Row w u (strs m)) (hlm : l.length = m.length) (hz : ∀ s ∈ l, s.size ≤ 1000000) (hy : ∀ s ∈ m, s.size ≤ 1000000) :
 Calls Tryz.prog 28 #[v, u] w fun e w' => e = .returned (.string (dstB l m)) ∧ Below w.heap.size w w' := by
 have PA := fun V s t h1 h2 => hid (r2_Add V s t h1 h2)
 have PS := fun V s t h1 h2 => hid (r2_Sub V s t h1 h2)
 have PM := fun V s t h1 h2 => hid (r2_Mul V s t h1 h2)
 obtain ⟨a, c, rfl, h1, h2, h3⟩ := hv.openS
 obtain ⟨a', c', rfl, h1', h2', h3'⟩ := hu.openS
 obtain ⟨n, hn⟩ : ∃ n, l.length = n := ⟨_, rfl⟩
 have hm : m.length = n := by omega
 rw [hn] at h1 ⊢
 rw [hm] at h1' ⊢
 have H3 := hid h3; have HN := hid hn; have HZ := hid hz
 have H3' := hid h3'; have HM := hid hm; have HY := hid hy
 clear hv hu h3 h3' hn hm hz hy hlm
 go_enter Tryz.func28, Tryz.ntmps28
 go_wp2_with fail
 go_loopw [5, 6, 7, 8] (fun ss ii s7 s8 wr => ∃ i : Nat, ii = .int .i64 (i : Nat) ∧ i ≤ n ∧ Hid (ss = .string (dstB (l.take i) (m.take i))) ∧ Hid (Below w.heap.size w wr)) (fun ss ii s7 s8 wr => n - (intOf ii).toNat)
 case atStart => exact ⟨0, rfl, Nat.zero_le _, rfl, Below.refl _ _⟩
 case round =>
  obtain ⟨i, rfl, hi, hS, hB⟩ := hrel
  obtain rfl := hS.out
  clear hS
  by_cases hlt : i < n
  ·obtain ⟨x, hx⟩ : ∃ x, l[i]? = some x := ⟨_, List.getElem?_eq_getElem (by rw [HN.out]; exact hlt)⟩
   obtain ⟨y, hy⟩ : ∃ x, m[i]? = some x := ⟨_, List.getElem?_eq_getElem (by rw [HM.out]; exact hlt)⟩
   obtain ⟨g, o, rfl, hg, k1⟩ := H3.out i x hx
   obtain ⟨g', o', rfl, hg', k1'⟩ := H3'.out i y hy
   have TK := hid (dstB_take hx hy)
   have TS := dstB_size (l.take i) (m.take i)
   obtain ⟨T, hT⟩ : ∃ T, dstB (l.take i) (m.take i) = T := ⟨_, rfl⟩
   rw [hT] at TS TK ⊢
   have PX := fun V => PS V x y (HZ.out x (List.mem_of_getElem? hx)) (HY.out y (List.mem_of_getElem? hy))
   have DS := o2_size (· - ·) x y
   obtain ⟨D, hD⟩ : ∃ R, op2B (· - ·) x y = R := ⟨_, rfl⟩
   obtain ⟨ED, hED⟩ : ∃ R, op2E (· - ·) x y = R := ⟨_, rfl⟩
   rw [hD, hED] at PX
   rw [hD] at DS
   have PY := fun V => PM V D D (by omega) (by omega)
   have QS := o2_size (· * ·) D D
   obtain ⟨Q, hQ⟩ : ∃ R, op2B (· * ·) D D = R := ⟨_, rfl⟩
   obtain ⟨EQ, hEQ⟩ : ∃ R, op2E (· * ·) D D = R := ⟨_, rfl⟩
   rw [hQ, hEQ] at PY
   rw [hQ] at QS
   have PZ := fun V => PA V T Q (by omega) (by omega)
   have TK2 : Hid (dstB (l.take (i + 1)) (m.take (i + 1)) = op2B (· + ·) T Q) := by
    show _ = _
    rw [TK.out]
    unfold dq2 dq1
    dsimp only
    rw [hD, hQ]
   obtain ⟨R, hR⟩ : ∃ R, op2B (· + ·) T Q = R := ⟨_, rfl⟩
   obtain ⟨E, hE⟩ : ∃ R, op2E (· + ·) T Q = R := ⟨_, rfl⟩
   rw [hR] at TK2 PZ
   rw [hE] at PZ
   have KK : Hid (∀ w', Below wr.heap.size wr w' → w'.cell? ⟨g, o + i, none⟩ = some (.string x) ∧ w'.cell? ⟨g', o' + i, none⟩ = some (.string y)) := fun w' hb => ⟨((bnext hB.out hb).cell (p := ⟨g, o + i, none⟩) hg).trans k1, ((bnext hB.out hb).cell (p := ⟨g', o' + i, none⟩) hg').trans k1'⟩
   have b1 : (0 : Int) ≤ (i : Int) := by omega
   have b2 : (i : Int) < (n : Int) := by omega
   have wi : IntKind.i64.wrap ((i : Int) + 1) = (i : Int) + 1 := by rw [IntWalk.i64_in _ ⟨by omega, by omega⟩]
   clear k1 k1' hx hy hg hg' hT TS TK DS QS hD hED hQ hEQ hR hE
   go_wp2_with fail
   refine held_plain [0, 1, 2, 3, 4, 5, 6, 7] 6 (fun w' => w'.cell? ⟨g, o + i, none⟩ = some (.string x) ∧ w'.cell? ⟨g', o' + i, none⟩ = some (.string y)) (by kernel_rfl) (by kernel_rfl) (by kernel_rfl) (by kernel_rfl) (KK.out _ (Below.refl _ _).drew) ?_
   iterate 8
    refine ⟨_, rfl, ?_⟩
    apply Exists.intro
    refine ⟨.inl ⟨by rfl, ?_⟩, ?_⟩
    ·(intro W' hW'; obtain ⟨q1, q2⟩ := hW'; go_simp; try (with_reducible rfl))
    (dsimp only [Act.put]; try simp only [List.setIfInBounds_toArray, List.set_cons_zero, List.set_cons_succ])
   refine held_one (i := 8) (by kernel_rfl) (by rfl) (by rfl) ?_
   go_wp2_with fail
   refine (PX _).out.mono ?_; rintro e w1 ⟨rfl, hb1⟩
   have x1 := hid (show Below wr.heap.size wr w1 from (Below.refl _ _).drew.trans hb1)
   clear hb1
   go_wp2_with fail
   refine ⟨KK.out _ x1.out, ?_⟩
   refine held_more (is := [9, 10, 11, 12, 13]) (g := 0) (by kernel_rfl) rfl (KK.out _ x1.out) (by kernel_rfl) ?_
   iterate 5
    refine ⟨_, rfl, ?_⟩
    apply Exists.intro
    refine ⟨.inl ⟨by rfl, ?_⟩, ?_⟩
    ·(intro W' hW'; obtain ⟨q1, q2⟩ := hW'; go_simp; try (with_reducible rfl))
    (dsimp only [Act.put]; try simp only [List.setIfInBounds_toArray, List.set_cons_zero, List.set_cons_succ])
   refine wpAnyH_done (by kernel_rfl) ?_ _
   simp only [Only]
   go_wp2_with fail
   refine (PY _).out.mono ?_; rintro e w2 ⟨rfl, hb2⟩
   have x2 := hid (bnext x1.out hb2)
   clear hb2
   go_wp2_with fail
   refine (PZ _).out.mono ?_; rintro e w3 ⟨rfl, hb3⟩
   have x3 := hid (bnext x2.out hb3)
   clear hb3
   go_wp2_with fail
   go_roundw
   case rel => exact ⟨i + 1, rfl, by omega, by show _ = _; rw [TK2.out], bnext hB.out x3.out⟩
   case measure => simp [intOf] <;> omega
  ·obtain rfl : i = n := by omega
   have q1 : decide ((i : Int) < (i : Int)) = false := by simp
   have hT : l.take i = l := List.take_of_length_le (by rw [HN.out]; exact Nat.le_refl _)
   have hT2 : m.take i = m := List.take_of_length_le (by rw [HM.out]; exact Nat.le_refl _)
   rw [hT, hT2]
   clear hlt hT hT2
   go_wp2_with fail
   go_ret
   exact ⟨rfl, hB.out⟩
end Go.Proofs.YtlimaehdmcnjaaaGreatDoor
