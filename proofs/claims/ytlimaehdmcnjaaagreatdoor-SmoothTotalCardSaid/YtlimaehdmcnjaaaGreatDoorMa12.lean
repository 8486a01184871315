/- Texts that the proof rests on, merged: Sw1, Sto. -/
import Derived.Test.YtlimaehdmcnjaaaGreatDoorMa11
set_option linter.unusedVariables false
set_option linter.unusedSimpArgs false
set_option linter.unusedSectionVars false
set_option maxRecDepth 100000
set_option maxHeartbeats 8000000
namespace Go.Proofs.YtlimaehdmcnjaaaGreatDoor
open Go.RowKit
open Go.Shelf
open Go.Lib (decDigits nDigits)
theorem all_take {p : ByteArray → Bool} {l : List ByteArray} (h : ∀ (j : Nat) (x : ByteArray), j < l.length → l[j]? = some x → p x = true) : l.all p = true := by
 rw [List.all_eq_true]
 intro x hx
 obtain ⟨j, hj⟩ := List.getElem?_of_mem hx
 exact h j x (List.getElem?_eq_some_iff.1 hj).1 hj
theorem all_not {p : ByteArray → Bool} {l : List ByteArray} {x : ByteArray} (hx : x ∈ l) (h : p x = false) : l.all p = false := by
 cases e : l.all p
 ·rfl
 ·rw [List.all_eq_true] at e
  rw [e x hx] at h
  cases h
theorem w_light (w : World) (v : Value) (l : List ByteArray) (hv : Row w v (strs l)) :
 Calls Tryz.prog 31 #[v] w fun e w' => e = .returned (.bool (lightB l)) ∧ Below w.heap.size w w' := by
 obtain ⟨a, c, rfl, h1, h2, h3⟩ := hv.openS
 obtain ⟨n, hn⟩ : ∃ n, l.length = n := ⟨_, rfl⟩
 rw [hn] at h1 ⊢
 have H3 := hid h3; have HN := hid hn
 obtain ⟨B, hB12⟩ : ∃ B, decide (n ≤ 12) = B := ⟨_, rfl⟩
 have HB12 := hid hB12
 have q12 : decide ((n : Int) ≤ 12) = B := by rw [← hB12]; rw [Bool.eq_iff_iff, decide_eq_true_iff, decide_eq_true_iff]; omega
 clear hv h3 hn
 go_enter Tryz.func31, Tryz.ntmps31
 go_wp2_with fail
 go_loopw [3] (fun ii wr => ∃ i : Nat, ii = .int .i64 (i : Nat) ∧ i ≤ n ∧ Hid (∀ (j : Nat) (x : ByteArray), j < i → l[j]? = some x → x.size ≤ 20) ∧ Hid (Below w.heap.size w wr)) (fun ii wr => n - (intOf ii).toNat)
 case atStart => exact ⟨0, rfl, Nat.zero_le _, fun j x hj => absurd hj (by omega), Below.refl _ _⟩
 case round =>
  obtain ⟨i, rfl, hi, hI, hB⟩ := hrel
  by_cases hlt : i < n
  ·obtain ⟨x, hx⟩ : ∃ x, l[i]? = some x := ⟨_, List.getElem?_eq_getElem (by rw [HN.out]; exact hlt)⟩
   obtain ⟨g, o, rfl, hg, k1⟩ := H3.out i x hx
   have HX := hid hx
   have m1 := (hB.out.cell (p := ⟨g, o + i, none⟩) hg).trans k1
   have b1 : (0 : Int) ≤ (i : Int) := by omega
   have b2 : (i : Int) < (n : Int) := by omega
   have wi : IntKind.i64.wrap ((i : Int) + 1) = (i : Int) + 1 := by rw [IntWalk.i64_in _ ⟨by omega, by omega⟩]
   clear k1 hx hg hB12
   by_cases hs : x.size ≤ 20
   ·have q1 : decide ((20 : Int) < (x.size : Int)) = false := decide_eq_false (by omega)
    have HS := hid hs
    clear hs
    go_wp2_with fail
    go_roundw
    case rel => exact ⟨i + 1, rfl, by omega, fun j y hj hy => by
     rcases Nat.lt_or_ge j i with h | h
     ·exact hI.out j y h hy
     ·obtain rfl : j = i := by omega
      rw [HX.out] at hy
      cases hy
      exact HS.out, hB.out⟩
    case measure => simp [intOf] <;> omega
   ·have q1 : decide ((20 : Int) < (x.size : Int)) = true := decide_eq_true (by omega)
    have HS := hid hs
    clear hs
    go_wp2_with fail
    go_ret
    refine ⟨?_, hB.out⟩
    unfold lightB
    rw [all_not (List.mem_of_getElem? HX.out) (by exact decide_eq_false HS.out)]; rfl
  ·obtain rfl : i = n := by omega
   have q1 : decide ((i : Int) < (i : Int)) = false := by simp
   clear hlt hB12
   go_wp2_with fail
   go_ret
   refine ⟨?_, hB.out⟩
   unfold lightB
   rw [all_take (fun j x hj hx => by exact decide_eq_true (hI.out j x (by have := HN.out; omega) hx)), HN.out, HB12.out]; rfl
theorem w_valid (w : World) (v : Value) (l : List ByteArray) (hv : Row w v (strs l)) (hz : ∀ s ∈ l, s.size ≤ 9223372036854775807) :
 Calls Tryz.prog 10 #[v] w fun e w' => e = .returned (.bool (validB l)) ∧ Below w.heap.size w w' := by
 have HV := hid hv
 have PC := fun V s h => hid (r2_CheckA V s h)
 have PL := fun V u h => hid (w_light V u l h)
 obtain ⟨a, c, rfl, h1, h2, h3⟩ := hv.openS
 obtain ⟨n, hn⟩ : ∃ n, l.length = n := ⟨_, rfl⟩
 rw [hn] at h1 HV ⊢
 have H3 := hid h3; have HN := hid hn; have HZ := hid hz
 obtain ⟨L, hL⟩ : ∃ L, lightB l = L := ⟨_, rfl⟩
 have HLI := hid hL
 rw [hL] at PL
 obtain ⟨B, hB0⟩ : ∃ B, decide (0 < n) = B := ⟨_, rfl⟩
 have HB0 := hid hB0
 have q0 : decide ((0 : Int) < (n : Int)) = B := by rw [← hB0]; rw [Bool.eq_iff_iff, decide_eq_true_iff, decide_eq_true_iff]; omega
 clear hv h3 hn hz hL
 go_enter Tryz.func10, Tryz.ntmps10
 go_wp2_with fail
 go_loopw [3] (fun ii wr => ∃ i : Nat, ii = .int .i64 (i : Nat) ∧ i ≤ n ∧ Hid (∀ (j : Nat) (x : ByteArray), j < i → l[j]? = some x → qE x = 0) ∧ Hid (Below w.heap.size w wr)) (fun ii wr => n - (intOf ii).toNat)
 case atStart => exact ⟨0, rfl, Nat.zero_le _, fun j x hj => absurd hj (by omega), Below.refl _ _⟩
 case round =>
  obtain ⟨i, rfl, hi, hI, hB⟩ := hrel
  by_cases hlt : i < n
  ·obtain ⟨x, hx⟩ : ∃ x, l[i]? = some x := ⟨_, List.getElem?_eq_getElem (by rw [HN.out]; exact hlt)⟩
   obtain ⟨g, o, rfl, hg, k1⟩ := H3.out i x hx
   have HX := hid hx
   have PCx := fun V => PC V x (HZ.out x (List.mem_of_getElem? hx))
   have m1 := (hB.out.cell (p := ⟨g, o + i, none⟩) hg).trans k1
   have b1 : (0 : Int) ≤ (i : Int) := by omega
   have b2 : (i : Int) < (n : Int) := by omega
   have wi : IntKind.i64.wrap ((i : Int) + 1) = (i : Int) + 1 := by rw [IntWalk.i64_in _ ⟨by omega, by omega⟩]
   obtain ⟨E, hE⟩ : ∃ E, qE x = E := ⟨_, rfl⟩
   have HE := hid hE
   rw [hE] at PCx
   clear k1 hx hg hB0 hE
   by_cases hs : E = 0
   ·subst hs
    go_wp2_with fail
    refine (PCx _).out.mono ?_; rintro e w1 ⟨rfl, hb1⟩
    have y1 := hid hb1; clear hb1
    go_wp2_with fail
    go_roundw
    case rel => exact ⟨i + 1, rfl, by omega, fun j y hj hy => by
     rcases Nat.lt_or_ge j i with h | h
     ·exact hI.out j y h hy
     ·obtain rfl : j = i := by omega
      rw [HX.out] at hy
      cases hy
      exact HE.out, bnext hB.out y1.out⟩
    case measure => simp [intOf] <;> omega
   ·have q1 : (E == 0) = false := by simpa using hs
    have q2 : (E != 0) = true := by simpa using hs
    have HS := hid hs
    clear hs
    go_wp2_with fail
    refine (PCx _).out.mono ?_; rintro e w1 ⟨rfl, hb1⟩
    have y1 := hid hb1; clear hb1
    go_wp2_with fail
    go_ret
    refine ⟨?_, bnext hB.out y1.out⟩
    unfold validB
    rw [all_not (List.mem_of_getElem? HX.out) (by rw [HE.out]; exact decide_eq_false HS.out)]; rfl
  ·obtain rfl : i = n := by omega
   have q1 : decide ((i : Int) < (i : Int)) = false := by simp
   clear hlt hB0
   have KEY : Hid (validB l = (L && B)) := by
    show _ = _
    unfold validB
    rw [all_take (fun j x hj hx => by exact decide_eq_true (hI.out j x (by have := HN.out; omega) hx)), HLI.out, HN.out, HB0.out, Bool.true_and]
   cases L
   ·go_wp2_with fail
    refine (PL _ _ (HV.out.call hB.out)).out.mono ?_; rintro e w1 ⟨rfl, hb1⟩
    have y1 := hid hb1; clear hb1
    go_wp2_with fail
    go_ret
    exact ⟨by rw [KEY.out]; rfl, bnext hB.out y1.out⟩
   ·go_wp2_with fail
    refine (PL _ _ (HV.out.call hB.out)).out.mono ?_; rintro e w1 ⟨rfl, hb1⟩
    have y1 := hid hb1; clear hb1
    go_wp2_with fail
    go_ret
    exact ⟨by rw [KEY.out, ← HB0.out]; rfl, bnext hB.out y1.out⟩
theorem w_least (w : World) (s t : ByteArray) (hs : s.size ≤ 1000000) (ht : t.size ≤ 1000000) :
 Calls Tryz.prog 11 #[.string s, .string t] w fun e w' => e = .returned (.bool (lstB s t)) ∧ Below w.heap.size w w' := by
 have H := hid (r2_Cmp w s t hs ht)
 obtain ⟨R, hR⟩ : ∃ R, lstB s t = R := ⟨_, rfl⟩
 have HR := hid hR
 obtain ⟨B, hB⟩ : ∃ B, cmB s t = B := ⟨_, rfl⟩
 obtain ⟨E, hE⟩ : ∃ E, cmE s t = E := ⟨_, rfl⟩
 rw [hB, hE] at H
 unfold lstB at hR
 rw [hB, hE] at hR
 rw [HR.out]
 clear hB hE hs ht HR
 by_cases he : E = 0
 ·subst he
  rw [decide_eq_true rfl, Bool.true_and] at hR
  go_enter Tryz.func11, Tryz.ntmps11
  go_wp2_with fail
  refine H.out.mono ?_; rintro e w3 ⟨rfl, hb3⟩
  have y3 := hid hb3; clear hb3
  go_wp2_with fail
  go_ret
  exact ⟨by first | rfl | rw [hR], y3.out⟩
 ·have q1 : (E == 0) = false := by simpa using he
  rw [decide_eq_false he, Bool.false_and] at hR
  subst hR
  clear he
  go_enter Tryz.func11, Tryz.ntmps11
  go_wp2_with fail
  refine H.out.mono ?_; rintro e w3 ⟨rfl, hb3⟩
  have y3 := hid hb3; clear hb3
  go_wp2_with fail
  go_ret
  exact ⟨rfl, y3.out⟩
theorem o2_size (f : Rat → Rat → Rat) (s t : ByteArray) : (op2B f s t).size ≤ 10000 := by
 unfold op2B
 split
 ·unfold outB
  split
  ·exact Nat.zero_le _
  ·rename_i h
   exact tx_size h
 ·exact Nat.zero_le _
theorem sumB_size (l : List ByteArray) : (sumB l).size ≤ 10000 := by
 rcases List.eq_nil_or_concat l with rfl | ⟨r, p, rfl⟩
 ·show (1 : Nat) ≤ 10000
  omega
 ·rw [List.concat_eq_append, sumB_snoc]
  exact o2_size _ _ _
theorem w_sum (w : World) (v : Value) (l : List ByteArray) (hv : Row w v (strs l)) (hz : ∀ s ∈ l, s.size ≤ 1000000) :
 Calls Tryz.prog 13 #[v] w fun e w' => e = .returned (.string (sumB l)) ∧ Below w.heap.size w w' := by
 have PA := fun V s t h1 h2 => hid (r2_Add V s t h1 h2)
 obtain ⟨a, c, rfl, h1, h2, h3⟩ := hv.openS
 obtain ⟨n, hn⟩ : ∃ n, l.length = n := ⟨_, rfl⟩
 rw [hn] at h1 ⊢
 have H3 := hid h3; have HN := hid hn; have HZ := hid hz
 clear hv h3 hn hz
 go_enter Tryz.func13, Tryz.ntmps13
 go_wp2_with fail
 go_loopw [3, 4] (fun ss ii wr => ∃ i : Nat, ii = .int .i64 (i : Nat) ∧ i ≤ n ∧ Hid (ss = .string (sumB (l.take i))) ∧ Hid (Below w.heap.size w wr)) (fun ss ii wr => n - (intOf ii).toNat)
 case atStart => exact ⟨0, rfl, Nat.zero_le _, rfl, Below.refl _ _⟩
 case round =>
  obtain ⟨i, rfl, hi, hS, hB⟩ := hrel
  obtain rfl := hS.out
  clear hS
  by_cases hlt : i < n
  ·obtain ⟨x, hx⟩ : ∃ x, l[i]? = some x := ⟨_, List.getElem?_eq_getElem (by rw [HN.out]; exact hlt)⟩
   obtain ⟨g, o, rfl, hg, k1⟩ := H3.out i x hx
   have TK := hid (sumB_take hx)
   have TS := sumB_size (l.take i)
   obtain ⟨T, hT⟩ : ∃ T, sumB (l.take i) = T := ⟨_, rfl⟩
   rw [hT] at TS TK ⊢
   have PX := fun V => PA V T x (by omega) (HZ.out x (List.mem_of_getElem? hx))
   obtain ⟨R, hR⟩ : ∃ R, op2B (· + ·) T x = R := ⟨_, rfl⟩
   obtain ⟨E, hE⟩ : ∃ R, op2E (· + ·) T x = R := ⟨_, rfl⟩
   rw [hR] at TK PX
   rw [hE] at PX
   have m1 := (hB.out.cell (p := ⟨g, o + i, none⟩) hg).trans k1
   have b1 : (0 : Int) ≤ (i : Int) := by omega
   have b2 : (i : Int) < (n : Int) := by omega
   have wi : IntKind.i64.wrap ((i : Int) + 1) = (i : Int) + 1 := by rw [IntWalk.i64_in _ ⟨by omega, by omega⟩]
   clear k1 hx hg hT TS hR hE
   go_wp2_with fail
   refine (PX _).out.mono ?_; rintro e w1 ⟨rfl, hb1⟩
   have y1 := hid hb1; clear hb1
   go_wp2_with fail
   go_roundw
   case rel => exact ⟨i + 1, rfl, by omega, by show _ = _; rw [TK.out], bnext hB.out y1.out⟩
   case measure => simp [intOf] <;> omega
  ·obtain rfl : i = n := by omega
   have q1 : decide ((i : Int) < (i : Int)) = false := by simp
   have hT : l.take i = l := List.take_of_length_le (by rw [HN.out]; exact Nat.le_refl _)
   rw [hT]
   clear hlt hT
   go_wp2_with fail
   go_ret
   exact ⟨rfl, hB.out⟩
theorem dstB_size (a b : List ByteArray) : (dstB a b).size ≤ 10000 := by
 unfold dstB
 rcases List.eq_nil_or_concat (a.zip b) with e | ⟨r, p, e⟩
 ·rw [e]
  show (1 : Nat) ≤ 10000
  omega
 ·rw [e, List.concat_eq_append, List.foldl_append]
  exact o2_size _ _ _
theorem w_distance (w : World) (v u : Value) (l m : List ByteArray) (hv : Row w v (strs l)) (hu : Row w u (strs m)) (hlm : l.length = m.length) (hz : ∀ s ∈ l, s.size ≤ 1000000) (hy : ∀ s ∈ m, s.size ≤ 1000000) :
 Calls Tryz.prog 28 #[v, u] w fun e w' => e = .returned (.string (dstB l m)) ∧ Below w.heap.size w w' := by
 have PA := fun V s t h1 h2 => hid (r2_Add V s t h1 h2)
 have PS := fun V s t h1 h2 => hid (r2_Sub V s t h1 h2)
 have PM := fun V s t h1 h2 => hid (r2_Mul V s t h1 h2)
 obtain ⟨a, c, rfl, h1, h2, h3⟩ := hv.openS
 obtain ⟨a', c', rfl, h1', h2', h3'⟩ := hu.openS
 obtain ⟨n, hn⟩ : ∃ n, l.length = n := ⟨_, rfl⟩
 have hm : m.length = n := by omega
 rw [hn] at h1 ⊢
 rw [hm] at h1' ⊢
 have H3 := hid h3; have HN := hid hn; have HZ := hid hz
 have H3' := hid h3'; have HM := hid hm; have HY := hid hy
 clear hv hu h3 h3' hn hm hz hy hlm
 go_enter Tryz.func28, Tryz.ntmps28
 go_wp2_with fail
 go_loopw [5, 6, 7, 8] (fun ss ii s7 s8 wr => ∃ i : Nat, ii = .int .i64 (i : Nat) ∧ i ≤ n ∧ Hid (ss = .string (dstB (l.take i) (m.take i))) ∧ Hid (Below w.heap.size w wr)) (fun ss ii s7 s8 wr => n - (intOf ii).toNat)
 case atStart => exact ⟨0, rfl, Nat.zero_le _, rfl, Below.refl _ _⟩
 case round =>
  obtain ⟨i, rfl, hi, hS, hB⟩ := hrel
  obtain rfl := hS.out
  clear hS
  by_cases hlt : i < n
  ·obtain ⟨x, hx⟩ : ∃ x, l[i]? = some x := ⟨_, List.getElem?_eq_getElem (by rw [HN.out]; exact hlt)⟩
   obtain ⟨y, hy⟩ : ∃ x, m[i]? = some x := ⟨_, List.getElem?_eq_getElem (by rw [HM.out]; exact hlt)⟩
   obtain ⟨g, o, rfl, hg, k1⟩ := H3.out i x hx
   obtain ⟨g', o', rfl, hg', k1'⟩ := H3'.out i y hy
   have TK := hid (dstB_take hx hy)
   have TS := dstB_size (l.take i) (m.take i)
   obtain ⟨T, hT⟩ : ∃ T, dstB (l.take i) (m.take i) = T := ⟨_, rfl⟩
   rw [hT] at TS TK ⊢
   have PX := fun V => PS V x y (HZ.out x (List.mem_of_getElem? hx)) (HY.out y (List.mem_of_getElem? hy))
   have DS := o2_size (· - ·) x y
   obtain ⟨D, hD⟩ : ∃ R, op2B (· - ·) x y = R := ⟨_, rfl⟩
   obtain ⟨ED, hED⟩ : ∃ R, op2E (· - ·) x y = R := ⟨_, rfl⟩
   rw [hD, hED] at PX
   rw [hD] at DS
   have PY := fun V => PM V D D (by omega) (by omega)
   have QS := o2_size (· * ·) D D
   obtain ⟨Q, hQ⟩ : ∃ R, op2B (· * ·) D D = R := ⟨_, rfl⟩
   obtain ⟨EQ, hEQ⟩ : ∃ R, op2E (· * ·) D D = R := ⟨_, rfl⟩
   rw [hQ, hEQ] at PY
   rw [hQ] at QS
   have PZ := fun V => PA V T Q (by omega) (by omega)
   have TK2 : Hid (dstB (l.take (i + 1)) (m.take (i + 1)) = op2B (· + ·) T Q) := by
    show _ = _
    rw [TK.out]
    unfold dq2 dq1
    dsimp only
    rw [hD, hQ]
   obtain ⟨R, hR⟩ : ∃ R, op2B (· + ·) T Q = R := ⟨_, rfl⟩
   obtain ⟨E, hE⟩ : ∃ R, op2E (· + ·) T Q = R := ⟨_, rfl⟩
   rw [hR] at TK2 PZ
   rw [hE] at PZ
   have KK : Hid (∀ w', Below wr.heap.size wr w' → w'.cell? ⟨g, o + i, none⟩ = some (.string x) ∧ w'.cell? ⟨g', o' + i, none⟩ = some (.string y)) := fun w' hb => ⟨((bnext hB.out hb).cell (p := ⟨g, o + i, none⟩) hg).trans k1, ((bnext hB.out hb).cell (p := ⟨g', o' + i, none⟩) hg').trans k1'⟩
   have b1 : (0 : Int) ≤ (i : Int) := by omega
   have b2 : (i : Int) < (n : Int) := by omega
   have wi : IntKind.i64.wrap ((i : Int) + 1) = (i : Int) + 1 := by rw [IntWalk.i64_in _ ⟨by omega, by omega⟩]
   clear k1 k1' hx hy hg hg' hT TS TK DS QS hD hED hQ hEQ hR hE
   go_wp2_with fail
   refine held_plain [0, 1, 2, 3, 4, 5, 6, 7] 6 (fun w' => w'.cell? ⟨g, o + i, none⟩ = some (.string x) ∧ w'.cell? ⟨g', o' + i, none⟩ = some (.string y)) (by kernel_rfl) (by kernel_rfl) (by kernel_rfl) (by kernel_rfl) (KK.out _ (Below.refl _ _).drew) ?_
   iterate 8
    refine ⟨_, rfl, ?_⟩
    apply Exists.intro
    refine ⟨.inl ⟨by rfl, ?_⟩, ?_⟩
    ·(intro W' hW'; obtain ⟨q1, q2⟩ := hW'; go_simp; try (with_reducible rfl))
    (dsimp only [Act.put]; try simp only [List.setIfInBounds_toArray, List.set_cons_zero, List.set_cons_succ])
   refine held_one (i := 8) (by kernel_rfl) (by rfl) (by rfl) ?_
   go_wp2_with fail
   refine (PX _).out.mono ?_; rintro e w1 ⟨rfl, hb1⟩
   have x1 := hid (show Below wr.heap.size wr w1 from (Below.refl _ _).drew.trans hb1)
   clear hb1
   go_wp2_with fail
   refine ⟨KK.out _ x1.out, ?_⟩
   refine held_more (is := [9, 10, 11, 12, 13]) (g := 0) (by kernel_rfl) rfl (KK.out _ x1.out) (by kernel_rfl) ?_
   iterate 5
    refine ⟨_, rfl, ?_⟩
    apply Exists.intro
    refine ⟨.inl ⟨by rfl, ?_⟩, ?_⟩
    ·(intro W' hW'; obtain ⟨q1, q2⟩ := hW'; go_simp; try (with_reducible rfl))
    (dsimp only [Act.put]; try simp only [List.setIfInBounds_toArray, List.set_cons_zero, List.set_cons_succ])
   refine wpAnyH_done (by kernel_rfl) ?_ _
   simp only [Only]
   go_wp2_with fail
   refine (PY _).out.mono ?_; rintro e w2 ⟨rfl, hb2⟩
   have x2 := hid (bnext x1.out hb2)
   clear hb2
   go_wp2_with fail
   refine (PZ _).out.mono ?_; rintro e w3 ⟨rfl, hb3⟩
   have x3 := hid (bnext x2.out hb3)
   clear hb3
   go_wp2_with fail
   go_roundw
   case rel => exact ⟨i + 1, rfl, by omega, by show _ = _; rw [TK2.out], bnext hB.out x3.out⟩
   case measure => simp [intOf] <;> omega
  ·obtain rfl : i = n := by omega
   have q1 : decide ((i : Int) < (i : Int)) = false := by simp
   have hT : l.take i = l := List.take_of_length_le (by rw [HN.out]; exact Nat.le_refl _)
   have hT2 : m.take i = m := List.take_of_length_le (by rw [HM.out]; exact Nat.le_refl _)
   rw [hT, hT2]
   clear hlt hT hT2
   go_wp2_with fail
   go_ret
   exact ⟨rfl, hB.out⟩
theorem w_closest (w : World) (v u z : Value) (l m k : List ByteArray) (hv : Row w v (strs l)) (hu : Row w u (strs m)) (hk : Row w z (strs k)) (hlm : l.length = m.length) (hlk : l.length = k.length) (hz : ∀ s ∈ l, s.size ≤ 1000000) (hy : ∀ s ∈ m, s.size ≤ 1000000) (hx : ∀ s ∈ k, s.size ≤ 1000000) :
 Calls Tryz.prog 17 #[v, u, z] w fun e w' => e = .returned (.bool (cloB l m k)) ∧ Below w.heap.size w w' := by
 have P1 := fun V (h : Below w.heap.size w V) => hid (w_distance V v u l m (hv.call h) (hu.call h) hlm hz hy)
 have P2 := fun V (h : Below w.heap.size w V) => hid (w_distance V v z l k (hv.call h) (hk.call h) hlk hz hx)
 have P3 := fun V (h : Below w.heap.size w V) => hid (k_SameS V u z m k (hu.call h) (hk.call h))
 have S1 := dstB_size l m
 have S2 := dstB_size l k
 obtain ⟨R, hR⟩ : ∃ R, cloB l m k = R := ⟨_, rfl⟩
 have HR := hid hR
 unfold cloB at hR
 rw [HR.out]
 obtain ⟨X, hX⟩ : ∃ X, dstB l m = X := ⟨_, rfl⟩
 obtain ⟨Y, hY⟩ : ∃ X, dstB l k = X := ⟨_, rfl⟩
 rw [hX] at P1 S1
 rw [hY] at P2 S2
 rw [hX, hY] at hR
 have P4 := fun V => hid (w_least V X Y (by omega) (by omega))
 obtain ⟨B, hB⟩ : ∃ B, lstB X Y = B := ⟨_, rfl⟩
 obtain ⟨C, hC⟩ : ∃ B, decide (m = k) = B := ⟨_, rfl⟩
 rw [hB] at P4 hR
 rw [hC] at P3 hR
 obtain ⟨a1, c1, rfl, -, -, -⟩ := hv.openS
 obtain ⟨a2, c2, rfl, -, -, -⟩ := hu.openS
 obtain ⟨a3, c3, rfl, -, -, -⟩ := hk.openS
 clear hX hY hB hC hv hu hk hlm hlk hz hy hx S1 S2 HR
 cases B
 ·rw [Bool.false_and] at hR
  subst hR
  go_enter Tryz.func17, Tryz.ntmps17
  go_wp2_with fail
  refine (P1 _ (Below.refl _ _)).out.mono ?_; rintro e w1 ⟨rfl, hb1⟩
  have y1 := hid hb1; clear hb1
  go_wp2_with fail
  refine (P2 _ y1.out).out.mono ?_; rintro e w2 ⟨rfl, hb2⟩
  have y2 := hid (bnext y1.out hb2); clear hb2
  go_wp2_with fail
  refine (P4 _).out.mono ?_; rintro e w3 ⟨rfl, hb3⟩
  have y3 := hid (bnext y2.out hb3); clear hb3
  go_wp2_with fail
  go_ret
  exact ⟨rfl, y3.out⟩
 ·rw [Bool.true_and] at hR
  by_cases he : X = Y
  ·subst he
   rw [decide_eq_true rfl, Bool.not_true, Bool.false_or] at hR
   subst hR
   go_enter Tryz.func17, Tryz.ntmps17
   go_wp2_with fail
   refine (P1 _ (Below.refl _ _)).out.mono ?_; rintro e w1 ⟨rfl, hb1⟩
   have y1 := hid hb1; clear hb1
   go_wp2_with fail
   refine (P2 _ y1.out).out.mono ?_; rintro e w2 ⟨rfl, hb2⟩
   have y2 := hid (bnext y1.out hb2); clear hb2
   go_wp2_with fail
   refine (P4 _).out.mono ?_; rintro e w3 ⟨rfl, hb3⟩
   have y3 := hid (bnext y2.out hb3); clear hb3
   go_wp2_with fail
   refine (P3 _ y3.out).out.mono ?_; rintro e w4 ⟨rfl, hb4⟩
   have y4 := hid (bnext y3.out hb4); clear hb4
   go_wp2_with fail
   go_ret
   exact ⟨rfl, y4.out⟩
  ·have n1 : (X.toList == Y.toList) = false := by rw [beq_eq_false_iff_ne]; exact ne_tl he
   rw [decide_eq_false he, Bool.not_false, Bool.true_or] at hR
   subst hR
   clear he
   go_enter Tryz.func17, Tryz.ntmps17
   go_wp2_with fail
   refine (P1 _ (Below.refl _ _)).out.mono ?_; rintro e w1 ⟨rfl, hb1⟩
   have y1 := hid hb1; clear hb1
   go_wp2_with fail
   refine (P2 _ y1.out).out.mono ?_; rintro e w2 ⟨rfl, hb2⟩
   have y2 := hid (bnext y1.out hb2); clear hb2
   go_wp2_with fail
   refine (P4 _).out.mono ?_; rintro e w3 ⟨rfl, hb3⟩
   have y3 := hid (bnext y2.out hb3); clear hb3
   go_wp2_with fail
   go_ret
   exact ⟨rfl, y3.out⟩
theorem Row.behind {w : World} {g o m c : Nat} {l : List ByteArray} (h : Row w (.slice (some ⟨g, o, none⟩) (m + 1) c) (strs l)) : Row w (.slice (some ⟨g, o + 1, none⟩) m (c - 1)) (strs (l.drop 1)) := by
 obtain ⟨a, c', e, h1, h2, h3⟩ := h.ex
 simp at e
 obtain ⟨rfl, e2, rfl⟩ := e
 rw [strs_length] at h1
 refine ⟨some ⟨g, o + 1, none⟩, c - 1, ?_, ?_, by omega, fun i x hx => ?_⟩
 ·rw [strs_length, List.length_drop, show l.length - 1 = m by omega]
 ·rw [strs_length, List.length_drop]; omega
 ·have h7 : (strs l)[1 + i]? = some x := by
   unfold strs at hx ⊢
   rw [List.getElem?_map, List.getElem?_drop] at hx
   rw [List.getElem?_map]; exact hx
  obtain ⟨g', o', e', hg, hc⟩ := h3 _ _ h7
  simp at e'
  obtain ⟨rfl, rfl⟩ := e'
  exact ⟨_, _, rfl, hg, by rw [Nat.add_assoc]; exact hc⟩
theorem Row.none' {w : World} {a : Option Addr} : Row w (.slice a 0 0) (strs []) := ⟨a, 0, rfl, Nat.le_refl _, Nat.zero_le _, fun i x h => by simp [strs] at h⟩
theorem strs_set (l : List ByteArray) (i : Nat) (s : ByteArray) : (strs l).set i (.string s) = strs (l.set i s) := by
 unfold strs; rw [List.map_set]
theorem valid_one {t : ByteArray} (h : validB [t] = true) : qE t = 0 ∧ t.size ≤ 20 := by
 have := VL.of h
 exact ⟨this.q t (by simp), this.sz t (by simp)⟩
theorem tot_walk (w : World) (v u : Value) (l o : List ByteArray) (t : ByteArray) (hv : Row w v (strs l)) (hu : Row w u (strs o)) (hL : Lay w) (V1 : VL 20 l) (V2 : VL 20 o) (hlo : l.length ≤ o.length) (ht : qE t = 0) (hts : t.size ≤ 20)
 (hv1 : validB l = true) (hv2 : validB o = true) (hv3 : validB [t] = true) :
 Calls Tryz.prog 8 #[v, u, .string t] w fun e w' => e = .returned (.bool true) ∧ Below w.heap.size w w' := by
 have HT := tot_main V1 V2 hlo ht hts
 have PL := hid (w_lives29 w hL)
 have HL := hid hL
 have z1 : ∀ s ∈ l, s.size ≤ 1000000 := fun s hs => by have := V1.sz s hs; omega
 have z2 : ∀ s ∈ o, s.size ≤ 1000000 := fun s hs => by have := V2.sz s hs; omega
 have zt : t.size ≤ 1000000 := by omega
 have PV1 := fun V x hx => hid (w_valid V x l hx (fun s hs => by have := z1 s hs; omega))
 have PV2 := fun V x hx => hid (w_valid V x o hx (fun s hs => by have := z2 s hs; omega))
 have PV3 := fun V x hx => hid (w_valid V x [t] hx (fun s hs => by simp at hs; subst hs; omega))
 rw [hv1] at PV1
 rw [hv2] at PV2
 rw [hv3] at PV3
 have PC := fun V x hx hV => hid (s_Consistent V x l t hx z1 zt hV)
 obtain ⟨e0, hlen, hsum, ⟨c, hsame⟩, ⟨ha1, ha2⟩, hclo, hsz⟩ := HT
 have z3 : ∀ s ∈ cnR l t, s.size ≤ 1000000 := fun s hs => by have := hsz s hs; omega
 have PS := fun V x hx => hid (w_sum V x (cnR l t) hx z3)
 rw [hsum] at PS
 have PC2 := fun V x hx hV => hid (s_Consistent V x (cnR l t) t hx z3 zt hV)
 rw [ha1, ha2] at PC2
 obtain ⟨n, hn⟩ : ∃ n, l.length = n := ⟨_, rfl⟩
 rw [hn] at hlo hlen hclo
 obtain ⟨ys, hys⟩ : ∃ y, (o.take n).drop 1 = y := ⟨_, rfl⟩
 obtain ⟨o', ho'⟩ : ∃ y, o.take n = y := ⟨_, rfl⟩
 have ho'n : o'.length = n := by rw [← ho', List.length_take]; omega
 have z4 : ∀ s ∈ ys, s.size ≤ 1000000 := fun s hs => z2 s (List.mem_of_mem_take (List.mem_of_mem_drop (by rw [hys]; exact hs)))
 have PO := fun V x hx => hid (k_OwnSO V x o' hx (by have := V1.le; omega))
 have PY := fun V x hx => hid (w_sum V x ys hx z4)
 have zys := sumB_size ys
 rw [hys] at hclo
 have PR := fun V => hid (r2_Sub V t (sumB ys) zt (by omega))
 have zr := o2_size (· - ·) t (sumB ys)
 obtain ⟨r, hr⟩ : ∃ r, op2B (· - ·) t (sumB ys) = r := ⟨_, rfl⟩
 obtain ⟨re, hre⟩ : ∃ r, op2E (· - ·) t (sumB ys) = r := ⟨_, rfl⟩
 rw [hr] at hclo PR zr
 rw [hre] at PR
 obtain ⟨sy, hsy⟩ : ∃ s, sumB ys = s := ⟨_, rfl⟩
 rw [hsy] at PY PR
 have hset : o'.set 0 r = r :: ys := by
  rw [← hys, ho']
  cases o' with
  | nil => have := V1.pos; simp at ho'n; omega
  | cons a b => rfl
 have z5 : ∀ s ∈ r :: ys, s.size ≤ 1000000 := fun s hs => by
  rcases List.mem_cons.1 hs with rfl | hs
  ·omega
  ·exact z4 s hs
 have PSame := fun V x y hx hy => hid (k_SameS V x y (cnR l t) (cnR l t) hx hy)
 rw [decide_eq_true rfl] at PSame
 have hysn : ys.length + 1 = n := by rw [← hys, List.length_drop, ho', ho'n]; have := V1.pos; omega
 have PK := fun V x y z hx hy hz => hid (w_closest V x y z l (cnR l t) (r :: ys) hx hy hz (by omega) (by rw [List.length_cons]; omega) z1 z3 z5)
 rw [hclo] at PK
 obtain ⟨X, hX⟩ : ∃ X, cnR l t = X := ⟨_, rfl⟩
 rw [e0] at PC
 rw [hX] at PC PC2 PS PSame PK hlen hsame hsz
 -- first places
 have hp := V1.pos
 have hn12 := V1.le
 obtain ⟨m, rfl⟩ : ∃ m, n = m + 1 := ⟨n - 1, by omega⟩
 have PD := fun V (i : Nat) (s x : ByteArray) (h1 : l[i]? = some s) (h2 : X[i]? = some x) => hid (r2_Sub V x s (by have := hsz x (List.mem_of_getElem? h2); omega) (z1 s (List.mem_of_getElem? h1)))
 have PD' : ∀ (i : Nat) (s x : ByteArray), l[i]? = some s → X[i]? = some x → ∃ E, ∀ V, Hid (Calls Tryz.prog 22 #[.string x, .string s] V fun e w' => e = .returned (.tuple #[.string c, .int .i64 E]) ∧ Below V.heap.size V w') := by
  intro i s x h1 h2
  refine ⟨op2E (· - ·) x s, fun V => ?_⟩
  have := (PD V i s x h1 h2).out
  rw [hsame i s x h1 h2] at this
  exact hid this
 have HPD := hid PD'
 have HV := hid hv
 have HU := hid hu
 obtain ⟨a1, c1, rfl, q1, q2, q3⟩ := hv.openS
 obtain ⟨a2, c2, rfl, p1, p2, p3⟩ := hu.openS
 obtain ⟨M, hM⟩ : ∃ M, o.length = M := ⟨_, rfl⟩
 rw [hn] at q1 HV ⊢
 rw [hM] at p1 hlo HU ⊢
 have HQ3 := hid q3
 have HN := hid hn
 have HXL := hid hlen
 have HO' := hid (show strs o' = (strs o).take (m + 1) by rw [← ho']; unfold strs; rw [List.map_take])
 have HON := hid ho'n
 have HYS := hid (show o'.drop 1 = ys by rw [← ho']; exact hys)
 have HSET := hid hset
 have t2 : decide ((M : Int) < ((m + 1 : Nat) : Int)) = false := decide_eq_false (by omega)
 have t2' : decide ((M : Int) < (m : Int) + 1) = false := decide_eq_false (by omega)
 clear PD PD' hv1 hv2 hv3 hv hu hL V1 V2 z1 z2 z3 z4 z5 zt hts ht hsum ha1 ha2 hclo hsz hsame hys ho' hr hre hsy hX hn hM q3 p3 hlen e0 ho'n hset zys zr hysn
 go_enter Tryz.func8, Tryz.ntmps8
 go_wp2_with fail
 refine PL.out.mono ?_; rintro e w1 ⟨rfl, hb1⟩
 have y1 := hid hb1; clear hb1 PL
 go_wp2_with fail
 refine (PV1 _ _ (HV.out.call y1.out)).out.mono ?_; rintro e w2 ⟨rfl, hb2⟩
 have y2 := hid (bnext y1.out hb2); clear hb2
 go_wp2_with fail
 refine (PV2 _ _ (HU.out.call y2.out)).out.mono ?_; rintro e w3 ⟨rfl, hb3⟩
 have y3 := hid (bnext y2.out hb3); clear hb3
 have A3 := hid ((Below.refl w3.heap.size w3).alloc (Nat.le_refl _) (.cells #[.string t] 23))
 have R3 := hid (rowN_lit w3 [t] _ 1 w3.heap.size rfl rfl rfl (by omega))
 go_wp2_with fail
 refine (PV3 _ _ R3.out).out.mono ?_; rintro e w4 ⟨rfl, hb4⟩
 have y4 := hid (bnext y3.out (bnext A3.out hb4)); clear hb4 A3 R3
 go_wp2_with fail
 refine (PC _ _ (HV.out.call y4.out) (HL.out.call y4.out)).out.mono ?_; rintro e w5 ⟨⟨x5, rfl, hx5⟩, hb5⟩
 have y5 := hid (bnext y4.out hb5); clear hb5
 have X5 := hid hx5
 obtain ⟨a5, c5, rfl, -, -, hc5⟩ := hx5.openS
 rw [HXL.out] at X5 ⊢
 have HC5 := hid hc5
 clear hx5 hc5
 go_wp2_with fail
 refine (PS _ _ X5.out).out.mono ?_; rintro e w6 ⟨rfl, hb6⟩
 have b6 := hid hb6
 have y6 := hid (bnext y5.out hb6)
 have X6 := hid (X5.out.call hb6); clear hb6
 obtain ⟨x0, hx0⟩ : ∃ x, X[0]? = some x := ⟨_, List.getElem?_eq_getElem (by rw [HXL.out]; omega)⟩
 obtain ⟨l0, hl0⟩ : ∃ x, l[0]? = some x := ⟨_, List.getElem?_eq_getElem (by rw [HN.out]; omega)⟩
 obtain ⟨gx, ox, rfl, hgx, kx⟩ := HC5.out 0 x0 hx0
 obtain ⟨gl, ol, rfl, hgl, kl⟩ := HQ3.out 0 l0 hl0
 have CX : Hid (∀ V, Below w6.heap.size w6 V → ∀ (i : Nat) (x : ByteArray), X[i]? = some x → V.cell? ⟨gx, ox + i, none⟩ = some (.string x)) := fun V h i x hx => by
  obtain ⟨g, o, e, hg, k⟩ := HC5.out i x hx
  simp only [Option.some.injEq, Addr.mk.injEq, and_true] at e
  obtain ⟨rfl, rfl⟩ := e
  exact ((bnext b6.out h).cell (p := ⟨gx, ox + i, none⟩) hg).trans k
 have CL : Hid (∀ V, Below w6.heap.size w6 V → ∀ (i : Nat) (x : ByteArray), l[i]? = some x → V.cell? ⟨gl, ol + i, none⟩ = some (.string x)) := fun V h i x hx => by
  obtain ⟨g, o, e, hg, k⟩ := HQ3.out i x hx
  simp only [Option.some.injEq, Addr.mk.injEq, and_true] at e
  obtain ⟨rfl, rfl⟩ := e
  exact ((bnext y6.out h).cell (p := ⟨gl, ol + i, none⟩) hg).trans k
 have KK : Hid (∀ V, Below w6.heap.size w6 V → V.cell? ⟨gx, ox, none⟩ = some (.string x0) ∧ V.cell? ⟨gl, ol, none⟩ = some (.string l0)) := fun V h => ⟨by simpa using CX.out V h 0 x0 hx0, by simpa using CL.out V h 0 l0 hl0⟩
 obtain ⟨E0, HE0⟩ := HPD.out 0 l0 x0 hl0 hx0
 have b1 : (0 : Int) ≤ 0 := by omega
 have b2 : (0 : Int) < ((m + 1 : Nat) : Int) := by omega
 have b3 : (0 : Int) < (m : Int) + 1 := by omega
 clear hx0 hl0 hgx kx hgl kl HC5
 go_wp2_with fail
 refine held_plain [0, 1, 2, 3, 4, 5] 6 (fun w' => w'.cell? ⟨gx, ox, none⟩ = some (.string x0) ∧ w'.cell? ⟨gl, ol, none⟩ = some (.string l0)) (by kernel_rfl) (by kernel_rfl) (by kernel_rfl) (by kernel_rfl) (KK.out _ (Below.refl _ _).drew) ?_
 iterate 6
  refine ⟨_, rfl, ?_⟩
  apply Exists.intro
  refine ⟨.inl ⟨by rfl, ?_⟩, ?_⟩
  ·(intro W' hW'; obtain ⟨q1, q2⟩ := hW'; go_simp; try (with_reducible rfl))
  (dsimp only [Act.put]; try simp only [List.setIfInBounds_toArray, List.set_cons_zero, List.set_cons_succ])
 refine held_one (i := 6) (by kernel_rfl) (by rfl) (by rfl) ?_
 go_wp2_with fail
 refine (HE0 _).out.mono ?_; rintro e w7 ⟨rfl, hb7⟩
 have z7 := hid (show Below w6.heap.size w6 w7 from (Below.refl _ _).drew.trans hb7)
 have y7 := hid (bnext y6.out z7.out)
 clear hb7
 go_wp2_with fail
 refine ⟨KK.out _ z7.out, ?_⟩
 refine held_more (is := [7, 8, 9, 10, 11]) (g := 0) (by kernel_rfl) rfl (KK.out _ z7.out) (by kernel_rfl) ?_
 iterate 5
  refine ⟨_, rfl, ?_⟩
  apply Exists.intro
  refine ⟨.inl ⟨by rfl, ?_⟩, ?_⟩
  ·(intro W' hW'; obtain ⟨q1, q2⟩ := hW'; go_simp; try (with_reducible rfl))
  (dsimp only [Act.put]; try simp only [List.setIfInBounds_toArray, List.set_cons_zero, List.set_cons_succ])
 refine wpAnyH_done (by kernel_rfl) ?_ _
 simp only [Only]
 clear KK HE0
 go_wp2_with fail
 go_loopw [11, 12, 13] (fun ii s12 s13 wr => ∃ i : Nat, ii = .int .i64 (i : Nat) ∧ i ≤ m + 1 ∧ Hid (Below w7.heap.size w7 wr)) (fun ii s12 s13 wr => m + 1 - (intOf ii).toNat)
 case atStart => exact ⟨0, rfl, Nat.zero_le _, Below.refl _ _⟩
 case round =>
  obtain ⟨i, rfl, hi, hB⟩ := hrel
  by_cases hlt : i < m + 1
  ·obtain ⟨x, hx⟩ : ∃ x, X[i]? = some x := ⟨_, List.getElem?_eq_getElem (by rw [HXL.out]; exact hlt)⟩
   obtain ⟨y, hy⟩ : ∃ x, l[i]? = some x := ⟨_, List.getElem?_eq_getElem (by rw [HN.out]; exact hlt)⟩
   obtain ⟨E, HE⟩ := HPD.out i y x hy hx
   have KK : Hid (∀ V, Below wr.heap.size wr V → V.cell? ⟨gx, ox + i, none⟩ = some (.string x) ∧ V.cell? ⟨gl, ol + i, none⟩ = some (.string y)) := fun V h => ⟨CX.out V (bnext z7.out (bnext hB.out h)) i x hx, CL.out V (bnext z7.out (bnext hB.out h)) i y hy⟩
   have c1 : (0 : Int) ≤ (i : Int) := by omega
   have c2 : (i : Int) < ((m + 1 : Nat) : Int) := by omega
   have c3 : (i : Int) < (m : Int) + 1 := by omega
   have wi : IntKind.i64.wrap ((i : Int) + 1) = (i : Int) + 1 := by rw [IntWalk.i64_in _ ⟨by omega, by omega⟩]
   clear hx hy
   go_wp2_with fail
   refine held_plain [0, 1, 2, 3, 4, 5, 6, 7] 6 (fun w' => w'.cell? ⟨gx, ox + i, none⟩ = some (.string x) ∧ w'.cell? ⟨gl, ol + i, none⟩ = some (.string y)) (by kernel_rfl) (by kernel_rfl) (by kernel_rfl) (by kernel_rfl) (KK.out _ (Below.refl _ _).drew) ?_
   iterate 8
    refine ⟨_, rfl, ?_⟩
    apply Exists.intro
    refine ⟨.inl ⟨by rfl, ?_⟩, ?_⟩
    ·(intro W' hW'; obtain ⟨q1, q2⟩ := hW'; go_simp; try (with_reducible rfl))
    (dsimp only [Act.put]; try simp only [List.setIfInBounds_toArray, List.set_cons_zero, List.set_cons_succ])
   refine held_one (i := 8) (by kernel_rfl) (by rfl) (by rfl) ?_
   go_wp2_with fail
   refine (HE _).out.mono ?_; rintro e w8 ⟨rfl, hb8⟩
   have z8 := hid (show Below wr.heap.size wr w8 from (Below.refl _ _).drew.trans hb8)
   clear hb8
   go_wp2_with fail
   refine ⟨KK.out _ z8.out, ?_⟩
   refine held_more (is := [9, 10, 11, 12, 13]) (g := 0) (by kernel_rfl) rfl (KK.out _ z8.out) (by kernel_rfl) ?_
   iterate 5
    refine ⟨_, rfl, ?_⟩
    apply Exists.intro
    refine ⟨.inl ⟨by rfl, ?_⟩, ?_⟩
    ·(intro W' hW'; obtain ⟨q1, q2⟩ := hW'; go_simp; try (with_reducible rfl))
    (dsimp only [Act.put]; try simp only [List.setIfInBounds_toArray, List.set_cons_zero, List.set_cons_succ])
   refine wpAnyH_done (by kernel_rfl) ?_ _
   simp only [Only]
   go_wp2_with fail
   go_roundw
   case rel => exact ⟨i + 1, by go_num, by omega, bnext hB.out z8.out⟩
   case measure => simp [intOf] <;> omega
  ·obtain rfl : i = m + 1 := by omega
   have q1 : decide (((m + 1 : Nat) : Int) < ((m + 1 : Nat) : Int)) = false := by simp
   have q2 : decide ((m : Int) + 1 < (m : Int) + 1) = false := by simp
   have y8 := hid (bnext y7.out hB.out)
   have x8 := hid (X6.out.call (bnext z7.out hB.out))
   have RO := hid (HO'.out ▸ (HU.out.call y8.out).cut hlo)
   have s1 : ((m + 1 : Nat) : Int) ≤ (c2 : Int) := by omega
   have s2 : (m : Int) + 1 ≤ (c2 : Int) := by omega
   have s3 : (0 : Int) ≤ (m : Int) + 1 := by omega
   clear hlt b1 b2 b3 CX CL HPD
   go_wp2_with fail
   refine (PO _ _ RO.out).out.mono ?_; rintro e w9 ⟨⟨u9, rfl, hu9⟩, hb9⟩
   rw [HON.out] at hu9
   obtain ⟨g9, cap9, rfl⟩ := ownsRow_succ hu9
   have b9 := hid hb9
   have O9 := hid hu9
   obtain ⟨k1, k2, k3, k4, k5, k6, -⟩ := own_slot hu9
   have K1 := hid k1
   have RY := hid (Row.of_owns hu9)
   obtain ⟨o0, ho0⟩ : ∃ x, o'[0]? = some x := ⟨_, List.getElem?_eq_getElem (by rw [HON.out]; omega)⟩
   have HO0 := hid ho0
   have s4 : (0 : Int) ≤ 1 := by omega
   have s5 : (1 : Int) ≤ (m : Int) + 1 := by omega
   have s6 : (m : Int) + 1 ≤ (cap9 : Int) := by omega
   have s7 : (0 : Int) ≤ 0 := by omega
   have s8 : (0 : Int) < (m : Int) + 1 := by omega
   have K6 := hid k6
   clear hb9 hu9 k1 k2 k3 k4 k5 k6 ho0 s1 s2 s3
   by_cases hc1 : cap9 = 1
   ·subst hc1
    obtain rfl : m = 0 := by have := K6.out; omega
    have hy0 : ys = [] := by
     have h1 := HYS.out
     have h2 := HON.out
     have : ys.length = 0 := by rw [← h1, List.length_drop, h2]
     exact List.length_eq_zero_iff.1 this
    have RS : Hid (∀ a, Row w9 (.slice a 0 0) (strs ys)) := fun a => by rw [hy0]; exact Row.none'
    clear hy0
    go_wp2_with fail
    refine (PY _ _ (RS.out _)).out.mono ?_; rintro e w10 ⟨rfl, hb10⟩
    have d10 := hid hb10; clear hb10
    go_wp2_with fail
    refine (PR _).out.mono ?_; rintro e w11 ⟨rfl, hb11⟩
    have d11 := hid (bnext d10.out hb11); clear hb11
    have O11 := hid (owns_call O9.out d11.out)
    obtain ⟨k1, k2, k3, k4, -, -, -⟩ := own_slot O11.out
    have f4 := k3 0
    have c4 := k4 0 _ (strs_get HO0.out)
    have B12 := hid ((bnext b9.out d11.out).setCell (p := ⟨g9, 0, none⟩) K1.out (.string r))
    have R12 := hid (Row.of_owns (own_set O11.out 0 (.string r)))
    rw [strs_set, HSET.out] at R12
    clear k1 k2 k3 k4
    go_wp2_with fail
    refine (PC2 _ _ (x8.out.call B12.out) (HL.out.call (bnext y8.out B12.out))).out.mono ?_; rintro e w13 ⟨⟨u13, rfl, hu13⟩, hb13⟩
    have d13 := hid (bnext B12.out hb13)
    have U13 := hid hu13
    have R13 := hid (R12.out.call hb13)
    obtain ⟨a13, c13, rfl, -, -, -⟩ := hu13.openS
    clear hb13 hu13 f4 c4
    go_wp2_with fail
    refine (PSame _ _ _ U13.out (x8.out.call d13.out)).out.mono ?_; rintro e w14 ⟨rfl, hb14⟩
    have d14 := hid (bnext d13.out hb14)
    have R14 := hid (R13.out.call hb14)
    clear hb14
    go_wp2_with fail
    refine (PK _ _ _ _ (HV.out.call (bnext y8.out d14.out)) (x8.out.call d14.out) R14.out).out.mono ?_; rintro e w15 ⟨rfl, hb15⟩
    have d15 := hid (bnext d14.out hb15)
    clear hb15
    go_wp2_with fail
    go_ret
    exact ⟨rfl, bnext y8.out d15.out⟩
   ·have RS := hid (HYS.out ▸ Row.behind RY.out)
    go_wp2_with fail
    refine (PY _ _ RS.out).out.mono ?_; rintro e w10 ⟨rfl, hb10⟩
    have d10 := hid hb10; clear hb10
    go_wp2_with fail
    refine (PR _).out.mono ?_; rintro e w11 ⟨rfl, hb11⟩
    have d11 := hid (bnext d10.out hb11); clear hb11
    have O11 := hid (owns_call O9.out d11.out)
    obtain ⟨k1, k2, k3, k4, -, -, -⟩ := own_slot O11.out
    have f4 := k3 0
    have c4 := k4 0 _ (strs_get HO0.out)
    have B12 := hid ((bnext b9.out d11.out).setCell (p := ⟨g9, 0, none⟩) K1.out (.string r))
    have R12 := hid (Row.of_owns (own_set O11.out 0 (.string r)))
    rw [strs_set, HSET.out] at R12
    clear k1 k2 k3 k4
    go_wp2_with fail
    refine (PC2 _ _ (x8.out.call B12.out) (HL.out.call (bnext y8.out B12.out))).out.mono ?_; rintro e w13 ⟨⟨u13, rfl, hu13⟩, hb13⟩
    have d13 := hid (bnext B12.out hb13)
    have U13 := hid hu13
    have R13 := hid (R12.out.call hb13)
    obtain ⟨a13, c13, rfl, -, -, -⟩ := hu13.openS
    clear hb13 hu13 f4 c4
    go_wp2_with fail
    refine (PSame _ _ _ U13.out (x8.out.call d13.out)).out.mono ?_; rintro e w14 ⟨rfl, hb14⟩
    have d14 := hid (bnext d13.out hb14)
    have R14 := hid (R13.out.call hb14)
    clear hb14
    go_wp2_with fail
    refine (PK _ _ _ _ (HV.out.call (bnext y8.out d14.out)) (x8.out.call d14.out) R14.out).out.mono ?_; rintro e w15 ⟨rfl, hb15⟩
    have d15 := hid (bnext d14.out hb15)
    clear hb15
    go_wp2_with fail
    go_ret
    exact ⟨rfl, bnext y8.out d15.out⟩
theorem w_SmoothTotal (w : World) (v u : Value) (l o : List ByteArray) (t : ByteArray) (hv : Row w v (strs l)) (hu : Row w u (strs o)) (z1 : ∀ s ∈ l, s.size ≤ 9223372036854775807) (z2 : ∀ s ∈ o, s.size ≤ 9223372036854775807) (zt : t.size ≤ 9223372036854775807) (hL : Lay w) :
 Calls Tryz.prog 8 #[v, u, .string t] w fun e w' => e = .returned (.bool true) ∧ Below w.heap.size w w' := by
 by_cases hall : validB l = true ∧ validB o = true ∧ ¬ o.length < l.length ∧ validB [t] = true
 ·obtain ⟨h1, h2, h3, h4⟩ := hall
  obtain ⟨h5, h6⟩ := valid_one h4
  exact tot_walk w v u l o t hv hu hL (VL.of h1) (VL.of h2) (by omega) h5 h6 h1 h2 h4
 ·have PL := hid (w_lives29 w hL)
  have PV1 := fun V x hx => hid (w_valid V x l hx z1)
  have PV2 := fun V x hx => hid (w_valid V x o hx z2)
  have PV3 := fun V x hx => hid (w_valid V x [t] hx (fun s hs => by simp at hs; subst hs; exact zt))
  have HV := hid hv
  have HU := hid hu
  obtain ⟨a1, c1, rfl, q1, q2, -⟩ := hv.openS
  obtain ⟨a2, c2, rfl, p1, p2, -⟩ := hu.openS
  obtain ⟨V1, hV1⟩ : ∃ V, validB l = V := ⟨_, rfl⟩
  obtain ⟨V2, hV2⟩ : ∃ V, validB o = V := ⟨_, rfl⟩
  obtain ⟨V3, hV3⟩ : ∃ V, validB [t] = V := ⟨_, rfl⟩
  rw [hV1] at PV1 hall
  rw [hV2] at PV2 hall
  rw [hV3] at PV3 hall
  obtain ⟨n, hn⟩ : ∃ M, l.length = M := ⟨_, rfl⟩
  obtain ⟨M, hM⟩ : ∃ M, o.length = M := ⟨_, rfl⟩
  rw [hn] at q1 HV hall ⊢
  rw [hM] at p1 HU hall ⊢
  clear hv hu hV1 hV2 hV3 hn hM z1 z2 zt hL q1 q2 p1 p2
  cases V1
  ·clear hall
   go_enter Tryz.func8, Tryz.ntmps8
   go_wp2_with fail
   refine PL.out.mono ?_; rintro e w1 ⟨rfl, hb1⟩
   have y1 := hid hb1; clear hb1 PL
   go_wp2_with fail
   refine (PV1 _ _ (HV.out.call y1.out)).out.mono ?_; rintro e w2 ⟨rfl, hb2⟩
   have y2 := hid (bnext y1.out hb2); clear hb2
   go_wp2_with fail
   go_ret
   exact ⟨rfl, y2.out⟩
  ·cases V2
   ·clear hall
    go_enter Tryz.func8, Tryz.ntmps8
    go_wp2_with fail
    refine PL.out.mono ?_; rintro e w1 ⟨rfl, hb1⟩
    have y1 := hid hb1; clear hb1 PL
    go_wp2_with fail
    refine (PV1 _ _ (HV.out.call y1.out)).out.mono ?_; rintro e w2 ⟨rfl, hb2⟩
    have y2 := hid (bnext y1.out hb2); clear hb2
    go_wp2_with fail
    refine (PV2 _ _ (HU.out.call y2.out)).out.mono ?_; rintro e w3 ⟨rfl, hb3⟩
    have y3 := hid (bnext y2.out hb3); clear hb3
    go_wp2_with fail
    go_ret
    exact ⟨rfl, y3.out⟩
   ·by_cases hlt : M < n
    ·have t2 : decide ((M : Int) < (n : Int)) = true := decide_eq_true (by omega)
     have t3 : (M : Int) < (n : Int) := by omega
     clear hall
     go_enter Tryz.func8, Tryz.ntmps8
     go_wp2_with fail
     refine PL.out.mono ?_; rintro e w1 ⟨rfl, hb1⟩
     have y1 := hid hb1; clear hb1 PL
     go_wp2_with fail
     refine (PV1 _ _ (HV.out.call y1.out)).out.mono ?_; rintro e w2 ⟨rfl, hb2⟩
     have y2 := hid (bnext y1.out hb2); clear hb2
     go_wp2_with fail
     refine (PV2 _ _ (HU.out.call y2.out)).out.mono ?_; rintro e w3 ⟨rfl, hb3⟩
     have y3 := hid (bnext y2.out hb3); clear hb3
     go_wp2_with fail
     go_ret
     exact ⟨rfl, y3.out⟩
    ·obtain rfl : V3 = false := by
      cases V3
      ·rfl
      ·exact absurd ⟨rfl, rfl, hlt, rfl⟩ hall
     have t2 : decide ((M : Int) < (n : Int)) = false := decide_eq_false (by omega)
     have t3 : (n : Int) ≤ (M : Int) := by omega
     have t4 : n ≤ M := by omega
     have t5 : decide (M < n) = false := decide_eq_false (by omega)
     clear hall hlt
     go_enter Tryz.func8, Tryz.ntmps8
     go_wp2_with fail
     refine PL.out.mono ?_; rintro e w1 ⟨rfl, hb1⟩
     have y1 := hid hb1; clear hb1 PL
     go_wp2_with fail
     refine (PV1 _ _ (HV.out.call y1.out)).out.mono ?_; rintro e w2 ⟨rfl, hb2⟩
     have y2 := hid (bnext y1.out hb2); clear hb2
     go_wp2_with fail
     refine (PV2 _ _ (HU.out.call y2.out)).out.mono ?_; rintro e w3 ⟨rfl, hb3⟩
     have y3 := hid (bnext y2.out hb3); clear hb3
     have A3 := hid ((Below.refl w3.heap.size w3).alloc (Nat.le_refl _) (.cells #[.string t] 23))
     have R3 := hid (rowN_lit w3 [t] _ 1 w3.heap.size rfl rfl rfl (by omega))
     go_wp2_with fail
     refine (PV3 _ _ R3.out).out.mono ?_; rintro e w4 ⟨rfl, hb4⟩
     have y4 := hid (bnext y3.out (bnext A3.out hb4)); clear hb4 A3 R3
     go_wp2_with fail
     go_ret
     exact ⟨rfl, y4.out⟩
end Go.Proofs.YtlimaehdmcnjaaaGreatDoor
