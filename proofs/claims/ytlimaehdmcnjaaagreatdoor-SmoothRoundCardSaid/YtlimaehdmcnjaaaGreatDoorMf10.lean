/- Texts that the proof rests on, merged: So15. -/
import Derived.Test.YtlimaehdmcnjaaaGreatDoorMf9
import Derived.Deep.DeepCutAuto
set_option linter.unusedVariables false
set_option linter.unusedSimpArgs false
set_option linter.unusedSectionVars false
set_option maxRecDepth 100000
set_option maxHeartbeats 8000000
namespace Go.Proofs.YtlimaehdmcnjaaaGreatDoor
open Go.RowKit
open Go.Shelf
open Go.Lib (decDigits nDigits)
theorem held_four {P : Program} {ops : Array Oper} {Q : Exit → Act → World → Prop} {md : Region.Mode} {S : World → Prop} {i j k m : Nat} {oi oj ok om : Oper} {fuel : Nat} {listed : Array Bool} {a : Act} {w : World} (hr : Region.ready md ops listed = [i, j, k, m]) (hi : ops[i]? = some oi) (hj : ops[j]? = some oj) (hk : ops[k]? = some ok) (hm : ops[m]? = some om) (hgi : oi.guard = none) (hgj : oj.guard = none) (hgk : ok.guard = none) (hgm : om.guard = none)
 (h1 : wpList P ops (ThenH P md ops (Only Q) S fuel (listed.setIfInBounds i true)) [oi] a w)
 (h2 : wpList P ops (ThenH P md ops (Only Q) S fuel (listed.setIfInBounds j true)) [oj] a w)
 (h3 : wpList P ops (ThenH P md ops (Only Q) S fuel (listed.setIfInBounds k true)) [ok] a w)
 (h4 : wpList P ops (ThenH P md ops (Only Q) S fuel (listed.setIfInBounds m true)) [om] a w) : wpAnyH P md ops (Only Q) S (fuel + 1) listed a w := by
 refine wpAnyH_all hr (by simp) fun n hn => ?_
 rcases List.mem_cons.1 hn with rfl | hn
 ·exact held_op hi hgi h1
 ·rcases List.mem_cons.1 hn with rfl | hn
  ·exact held_op hj hgj h2
  ·rcases List.mem_cons.1 hn with rfl | hn
   ·exact held_op hk hgk h3
   ·obtain rfl : n = m := by simpa using hn
    exact held_op hm hgm h4
theorem zr_made {B : Nat} {W : World} {g N : Nat} (h : Blk W g (madeCells #[.int .i64 0] N) 3) (hB : B ≤ g) (hN : N ≤ 12) : ZRow B W g N (List.replicate N 0) := by
 refine ZRow.new ?_ (by simp) hB (by omega)
 rw [made_zeros] at h
 have e : zs (List.replicate N 0) = ints .i64 (List.replicate N 0) := by simp [zs, ints]
 rw [e]; exact h
theorem zr_madeN {B : Nat} {W : World} {g N : Nat} (h : Blk W g (madeCells #[.int .i64 0] N) 3) (hB : B ≤ g) (hN : N ≤ 12) : ZRow B W g N ((List.replicate N 0).map fun (x : Nat) => (x : Int)) := by
 have := zr_made h hB hN
 rw [List.map_replicate]; exact this
theorem PRow.new12 {B : Nat} {W : World} {g N : Nat} (h : Blk W g (rp3 (.bool false) zz zz N).toArray 57) (hB : B ≤ g) (hN : N ≤ 12) : PRow B W g N [] := PRow.new h hB (by omega)
theorem rdE_bad {l : List ByteArray} (h : vecE l ≠ 0) : rdE l = vecE l ∧ rdR' l = [] := by
 have e : rdE l = vecE l := by unfold rdE; rw [if_neg h]
 refine ⟨e, ?_⟩
 unfold rdR'
 rw [e, if_neg h]
def fillL {α : Type} (X : List α) (z : α) (N i : Nat) : List α := X.take i ++ List.replicate (N - i) z
theorem fill_zero {α : Type} (X : List α) (z : α) (N : Nat) : fillL X z N 0 = List.replicate N z := by simp [fillL]
theorem fill_at {α : Type} {X : List α} {z : α} {N i : Nat} (hX : X.length = N) (hi : i < N) : (fillL X z N i)[i]? = some z := by
 unfold fillL
 rw [List.getElem?_append_right (by rw [List.length_take]; omega), List.length_take, Nat.min_eq_left (by omega), Nat.sub_self, List.getElem?_replicate, if_pos (by omega)]
theorem fill_set {α : Type} {X : List α} {z x : α} {N i : Nat} (hX : X.length = N) (hx : X[i]? = some x) : (fillL X z N i).set i x = fillL X z N (i + 1) := by
 have hi := (List.getElem?_eq_some_iff.1 hx).1
 unfold fillL
 rw [List.set_append_right _ _ (by rw [List.length_take]; omega), List.length_take, Nat.min_eq_left (by omega), Nat.sub_self, List.take_add_one, hx, Option.toList_some,
  show N - i = (N - (i + 1)) + 1 by omega, List.replicate_succ, List.set_cons_zero, List.append_assoc]; rfl
theorem fill_end {α : Type} {X : List α} {z : α} {N : Nat} (hX : X.length = N) : fillL X z N N = X := by
 unfold fillL
 rw [Nat.sub_self, List.replicate_zero, List.append_nil, List.take_of_length_le (by omega)]
theorem PRow.cells {B : Nat} {W : World} {g N : Nat} {ps : List Rat} (h : PRow B W g N ps) {i : Nat} (hi : i < N) : ∃ x y z, W.cell? ⟨g, i * 3, none⟩ = some x ∧ W.cell? ⟨g, i * 3 + 1, none⟩ = some y ∧ W.cell? ⟨g, i * 3 + 2, none⟩ = some z := by
 obtain ⟨cs, h1, h2, -, -⟩ := h.ex
 obtain ⟨d, hd⟩ : ∃ d, cs[i]? = some d := ⟨_, List.getElem?_eq_getElem (by omega)⟩
 have hd3 := h1.all d (List.mem_of_getElem? hd)
 obtain ⟨x, y, z, rfl⟩ : ∃ x y z, d = [x, y, z] := by
  match d, hd3 with
  | [x, y, z], _ => exact ⟨x, y, z, rfl⟩
 exact ⟨x, y, z, h1.cell hd (j := 0) rfl, h1.cell hd (j := 1) rfl, h1.cell hd (j := 2) rfl⟩
theorem below_grown1 {B : Nat} {w W W' : World} {g : Nat} (h0 : Below B w W) (hg : W.grownBy W' (some g)) (hB : B ≤ g) (hs : B ≤ w.heap.size) : Below B w W' := by
 refine h0.trans ⟨hg.os, hg.tape, hg.output, hg.size, fun j hj => hg.block j (Nat.lt_of_lt_of_le hj (Nat.le_trans hs h0.size)) fun e => ?_⟩
 have := Option.some.inj e
 omega
theorem isQ_partsU {W : World} {m : Bool} {x y : Value} {q : Rat} (h : IsQ .u64 W (.agg #[.bool m, x, y]) q) : IsN .u64 W x q.num.natAbs ∧ IsN .u64 W y q.den := by
 obtain ⟨N, D, e, h1, h2⟩ := h.ex
 injection e with e
 have e2 := congrArg Array.toList e
 injection e2 with e3 e4
 injection e4 with e5 e6
 injection e6 with e7 e8
 subst e5 e7
 exact ⟨h1, h2⟩
theorem isO_den {q : Rat} : isO q.den = decide (q.den = 1) := rfl
theorem rd_main (w : World) (v : Value) (l : List ByteArray) (hv : Row w v (strs l)) (hs : ∀ s ∈ l, s.size ≤ 1000000) (hl : l.length ≤ 12) (hL : Lay w) (hve : vecE l = 0) (hden : (rs (l.map vQ)).den = 1) (hnear : ∀ q ∈ l.map vQ, ¬ (bigR < q ∨ q < -bigR)) :
 Calls Tryz.prog 23 #[v] w fun e w' => (∃ u, e = .returned (.tuple #[u, .int .i64 0]) ∧ Row w' u (zs (rdL (l.map vQ) (rdM (l.map vQ))))) ∧ Below w.heap.size w w' := by
 have HB := hid (s_read w v l hv hs hL)
 rw [hve] at HB
 have HROW := hid hv
 have HL := hid hL
 obtain ⟨g1, g2, hq0⟩ := vecE_ok hve
 obtain ⟨N, hN⟩ : ∃ n, l.length = n := ⟨_, rfl⟩
 have hdq := dig_vqs hve
 have hlen : (l.map vQ).length = N := by rw [List.length_map, hN]
 obtain ⟨qs, hqs⟩ : ∃ qs, l.map vQ = qs := ⟨_, rfl⟩
 rw [hqs] at HB hden hnear hdq hlen ⊢
 have dS : Dig 300000 (rs qs) := (dig_rs (K := 4000) hdq).up (by omega)
 have HSm := fun V v h => hid (s_sum V w.heap.size v qs h (by omega) hdq)
 have HON := fun V v h => hid (l_One V v (rs qs).den h)
 have hone : isO (rs qs).den = true := by rw [isO_den, hden]; rfl
 rw [hone] at HON
 have HSl := fun V => hid (s_small V 1000000000000 (by omega))
 have lB : Lim bigR := Lim.of (K := 20) ⟨by unfold bigR; rw [Rat.num_natCast]; decide, by unfold bigR; rw [Rat.den_natCast]; decide⟩ (by omega)
 have hany : qs.any (farB bigR) = false := by
  rw [List.any_eq_false]
  intro q hq
  rw [farB_is, decide_eq_false (hnear q hq)]
  simp
 have HCF := fun V v g hv hg => hid (s_ContF V w.heap.size v qs bigR g hv (by omega) (fun q hq => Lim.of (hdq q hq) (by omega)) hg lB)
 rw [hany] at HCF
 have hmkI := make_intsR N (by omega)
 have hmkF := make_fr N (by omega)
 have HNN := hid (show N ≤ 12 by omega)
 have HN := hid hlen
 have HQS := hid hqs
 have HN0 := hid (show 0 < N by omega)
 have HLN := hid hN
 obtain ⟨a, c, rfl, -, -, q3⟩ := hv.openS
 have Q3 := hid q3
 rw [hN] at HB HROW ⊢
 have HNE := hid hnear
 have HSZ := hid hs
 have HQE := hid hq0
 have HDQ := hid hdq
 have HDEN := hid hden
 have HLQ := hid (fun (i : Nat) (s : ByteArray) (h : l[i]? = some s) => show qs[i]? = some (vQ s) by rw [← hqs, List.getElem?_map, h]; rfl)
 clear q3 hv hs hL hN g1 g2 hdq hlen dS hden hnear hany hone lB hve hq0 hl hqs
 go_enter Tryz.func23, Tryz.ntmps23
 go_wp2_with fail
 refine HB.out.mono ?_; rintro e w1 ⟨⟨u, rfl, hu, -⟩, hb1⟩
 have hu1 := hu trivial
 have y1 := hid hb1
 have RV := hid hu1
 obtain ⟨av, cv, rfl, -, -⟩ := hu1.slice
 rw [HN.out] at RV ⊢
 clear hb1 hu hu1
 go_wp2_with fail
 refine (HSm _ _ RV.out).out.mono ?_; rintro e w2 ⟨⟨u2, rfl, hu2⟩, hb2⟩
 obtain ⟨m2, a2, n2, c2, b2, d2, e2, rfl⟩ := hu2.qv
 have Q2 := hid (hu2.call ((Below.refl w2.heap.size w2).alloc (Nat.le_refl _) (.cells #[.bool m2, .slice a2 n2 c2, .slice b2 d2 e2] 57)))
 have F2 := hid (FB.new hu2)
 have X2 := Blk.new w2 #[.bool m2, .slice a2 n2 c2, .slice b2 d2 e2] 57
 have z2 := hid (bnext hb2 ((Below.refl w2.heap.size w2).alloc (Nat.le_refl _) (.cells #[.bool m2, .slice a2 n2 c2, .slice b2 d2 e2] 57)))
 have G6 := hid (show w1.heap.size ≤ w2.heap.size from hb2.size)
 obtain ⟨g6, hg6⟩ : ∃ g, w2.heap.size = g := ⟨_, rfl⟩
 obtain ⟨W2, hW2⟩ : ∃ x, w2.alloc (.cells #[.bool m2, .slice a2 n2 c2, .slice b2 d2 e2] 57) = x := ⟨_, rfl⟩
 rw [hW2] at Q2 F2 z2 X2
 rw [hg6] at F2 G6 X2
 have r2 := X2.cell 2
 simp at r2
 clear hb2 hu2 X2
 go_wp2_with fail
 clear hW2 hg6 r2
 refine (HON _ _ (isQ_partsU Q2.out).2).out.mono ?_; rintro e w3 ⟨rfl, rfl⟩
 go_wp2_with fail
 refine (HSl _).out.mono ?_; rintro e w3 ⟨⟨u3, rfl, hu3⟩, hb3⟩
 obtain ⟨m3, a3, n3, c3, b3, d3, e3, rfl⟩ := hu3.qv
 have A3 := (Below.refl w3.heap.size w3).alloc (Nat.le_refl _) (.cells #[.bool m3, .slice a3 n3 c3, .slice b3 d3 e3] 57)
 have z3 := hid (bnext z2.out (bnext hb3 A3))
 have F3 := hid (F2.out.call (bnext hb3 A3))
 have FH := hid (FB.new hu3)
 obtain ⟨g7, hg7⟩ : ∃ g, w3.heap.size = g := ⟨_, rfl⟩
 obtain ⟨W3, hW3⟩ : ∃ x, w3.alloc (.cells #[.bool m3, .slice a3 n3 c3, .slice b3 d3 e3] 57) = x := ⟨_, rfl⟩
 rw [hW3] at z3 F3 FH
 rw [hg7] at FH
 clear hb3 hu3 A3 Q2 F2 z2
 go_wp2_with fail
 clear hW3 hg7
 refine (HCF _ _ _ (RV.out.call z3.out) FH.out).out.mono ?_; rintro e W ⟨rfl, hb4⟩
 have z4 := hid (bnext z3.out hb4)
 have F4 := hid (F3.out.call hb4)
 clear hb4 F3 FH z3
 go_upto_region 10 with fail
 go_cut [8, 9, 10] (fun s8 s9 s10 wx => ∃ g8 gp g9 g10 : Nat, s8 = .slice (some ⟨g8, 0, none⟩) N N ∧ s9 = .pointer (some ⟨gp, 0, none⟩) ∧ s10 = .slice (some ⟨g10, 0, none⟩) N N ∧ Hid (RdS W.heap.size wx N g8 gp g9 g10 (List.replicate N 0) [] (List.replicate N 0)) ∧ Hid (Below W.heap.size W wx))
 case first =>
  refine held_plain [0, 1, 3, 4, 6, 7] 7 (fun V => True) (by kernel_rfl) (by kernel_rfl) (by kernel_rfl) (by kernel_rfl) trivial ?_
  iterate 6
   refine ⟨_, rfl, ?_⟩
   apply Exists.intro
   refine ⟨.inl ⟨by rfl, ?_⟩, ?_⟩
   ·(intro W' hW'; clear hW'; go_simp; try (with_reducible rfl))
   (dsimp only [Act.put]; try simp only [List.setIfInBounds_toArray, List.set_cons_zero, List.set_cons_succ])
  obtain ⟨V0, hV0⟩ : ∃ x, W.drew = x := ⟨_, rfl⟩
  have BV0 := hid (show Below W.heap.size W V0 by rw [← hV0]; exact (Below.refl _ _).drew)
  rw [hV0]
  clear hV0
  refine held_four (i := 2) (j := 5) (k := 8) (m := 9) (by kernel_rfl) (by rfl) (by rfl) (by rfl) (by rfl) (by rfl) (by rfl) (by rfl) (by rfl) ?_ ?_ ?_ ?_
  ·skip
   go_wp2_with fail
   obtain ⟨V1, hV⟩ : ∃ x, V0.alloc (.cells (madeCells #[.int .i64 0] N) 3) = x := ⟨_, rfl⟩
   have hb : Below V0.heap.size V0 V1 := by rw [← hV]; exact (Below.refl _ _).alloc (Nat.le_refl _) _
   have Xa := hid (show Blk V1 V0.heap.size (madeCells #[.int .i64 0] N) 3 by rw [← hV]; exact Blk.new _ _ _)
   have BV1 := hid (bnext BV0.out hb)
   have Ga := hid (show W.heap.size ≤ V0.heap.size from BV0.out.size)
   rw [hV]
   clear hb hV
   refine ⟨trivial, ?_⟩
   refine held_three (i := 5) (j := 8) (k := 9) (by kernel_rfl) (by rfl) (by rfl) (by rfl) (by rfl) (by rfl) (by rfl) ?_ ?_ ?_
   ·skip
    go_wp2_with fail
    obtain ⟨V2, hV⟩ : ∃ x, V1.alloc (.cells (rp3 (.bool false) zz zz N).toArray 57) = x := ⟨_, rfl⟩
    have hb : Below V1.heap.size V1 V2 := by rw [← hV]; exact (Below.refl _ _).alloc (Nat.le_refl _) _
    have Xb := hid (show Blk V2 V1.heap.size ((rp3 (.bool false) zz zz N).toArray) 57 by rw [← hV]; exact Blk.new _ _ _)
    have BV2 := hid (bnext BV1.out hb)
    have Gb := hid (show W.heap.size ≤ V1.heap.size from BV1.out.size)
    have NE_b_a := hid (show V1.heap.size ≠ V0.heap.size from Nat.ne_of_gt Xa.out.lt)
    have NE_a_b := hid (show V0.heap.size ≠ V1.heap.size from Nat.ne_of_lt Xa.out.lt)
    have Xa := hid (Xa.out.call hb)
    rw [hV]
    clear hb hV
    refine ⟨trivial, ?_⟩
    refine held_two (i := 8) (j := 9) (by kernel_rfl) (by rfl) (by rfl) (by rfl) (by rfl) ?_ ?_
    ·skip
     go_wp2_with fail
     obtain ⟨V3, hV⟩ : ∃ x, V2.alloc (.cells (madeCells #[.int .i64 0] N) 3) = x := ⟨_, rfl⟩
     have hb : Below V2.heap.size V2 V3 := by rw [← hV]; exact (Below.refl _ _).alloc (Nat.le_refl _) _
     have Xc := hid (show Blk V3 V2.heap.size (madeCells #[.int .i64 0] N) 3 by rw [← hV]; exact Blk.new _ _ _)
     have BV3 := hid (bnext BV2.out hb)
     have Gc := hid (show W.heap.size ≤ V2.heap.size from BV2.out.size)
     have NE_c_a := hid (show V2.heap.size ≠ V0.heap.size from Nat.ne_of_gt Xa.out.lt)
     have NE_a_c := hid (show V0.heap.size ≠ V2.heap.size from Nat.ne_of_lt Xa.out.lt)
     have NE_c_b := hid (show V2.heap.size ≠ V1.heap.size from Nat.ne_of_gt Xb.out.lt)
     have NE_b_c := hid (show V1.heap.size ≠ V2.heap.size from Nat.ne_of_lt Xb.out.lt)
     have Xa := hid (Xa.out.call hb)
     have Xb := hid (Xb.out.call hb)
     rw [hV]
     clear hb hV
     refine ⟨trivial, ?_⟩
     refine held_one (i := 9) (by kernel_rfl) (by rfl) (by rfl) ?_
     go_wp2_with fail
     obtain ⟨V4, hV⟩ : ∃ x, V3.alloc (.cells #[.slice none 0 0] 53) = x := ⟨_, rfl⟩
     have hb : Below V3.heap.size V3 V4 := by rw [← hV]; exact (Below.refl _ _).alloc (Nat.le_refl _) _
     have Xp := hid (show Blk V4 V3.heap.size (#[.slice none 0 0]) 53 by rw [← hV]; exact Blk.new _ _ _)
     have BV4 := hid (bnext BV3.out hb)
     have Gp := hid (show W.heap.size ≤ V3.heap.size from BV3.out.size)
     have NE_p_a := hid (show V3.heap.size ≠ V0.heap.size from Nat.ne_of_gt Xa.out.lt)
     have NE_a_p := hid (show V0.heap.size ≠ V3.heap.size from Nat.ne_of_lt Xa.out.lt)
     have NE_p_b := hid (show V3.heap.size ≠ V1.heap.size from Nat.ne_of_gt Xb.out.lt)
     have NE_b_p := hid (show V1.heap.size ≠ V3.heap.size from Nat.ne_of_lt Xb.out.lt)
     have NE_p_c := hid (show V3.heap.size ≠ V2.heap.size from Nat.ne_of_gt Xc.out.lt)
     have NE_c_p := hid (show V2.heap.size ≠ V3.heap.size from Nat.ne_of_lt Xc.out.lt)
     have Xa := hid (Xa.out.call hb)
     have Xb := hid (Xb.out.call hb)
     have Xc := hid (Xc.out.call hb)
     rw [hV]
     clear hb hV
     refine ⟨trivial, ?_⟩
     refine held_more (is := [10]) (g := 2) (by kernel_rfl) rfl trivial (by kernel_rfl) ?_
     iterate 1
      refine ⟨_, rfl, ?_⟩
      apply Exists.intro
      refine ⟨.inl ⟨by rfl, ?_⟩, ?_⟩
      ·(intro W' hW'; clear hW'; go_simp; try (with_reducible rfl))
      (dsimp only [Act.put]; try simp only [List.setIfInBounds_toArray, List.set_cons_zero, List.set_cons_succ])
     refine held_one (i := 11) (by kernel_rfl) (by rfl) (by rfl) ?_
     have r0 := Xp.out.cell 0
     have f0 := Xp.out.free 0
     simp at r0
     go_wp2_with fail
     have Xp := hid (Xp.out.set 0 (.slice (some ⟨V1.heap.size, 0, none⟩) N N))
     simp at Xp
     have BV5 := hid (BV4.out.setCell (p := ⟨V3.heap.size, 0, none⟩) Gp.out (.slice (some ⟨V1.heap.size, 0, none⟩) N N))
     have Xa := hid (show Blk _ (V0.heap.size) _ _ from (heap_set1 V4 (V3.heap.size) 0 (.slice (some ⟨V1.heap.size, 0, none⟩) N N) (g := V0.heap.size) NE_a_p.out).trans Xa.out)
     have Xb := hid (show Blk _ (V1.heap.size) _ _ from (heap_set1 V4 (V3.heap.size) 0 (.slice (some ⟨V1.heap.size, 0, none⟩) N N) (g := V1.heap.size) NE_b_p.out).trans Xb.out)
     have Xc := hid (show Blk _ (V2.heap.size) _ _ from (heap_set1 V4 (V3.heap.size) 0 (.slice (some ⟨V1.heap.size, 0, none⟩) N N) (g := V2.heap.size) NE_c_p.out).trans Xc.out)
     obtain ⟨V5, hV⟩ : ∃ x, V4.setCell ⟨V3.heap.size, 0, none⟩ (.slice (some ⟨V1.heap.size, 0, none⟩) N N) = x := ⟨_, rfl⟩
     rw [hV] at BV5 Xa Xb Xc Xp ⊢
     clear hV r0 f0
     refine ⟨trivial, ?_⟩
     refine held_more (is := [12]) (g := 0) (by kernel_rfl) rfl trivial (by kernel_rfl) ?_
     iterate 1
      refine ⟨_, rfl, ?_⟩
      apply Exists.intro
      refine ⟨.inl ⟨by rfl, ?_⟩, ?_⟩
      ·(intro W' hW'; clear hW'; go_simp; try (with_reducible rfl))
      (dsimp only [Act.put]; try simp only [List.setIfInBounds_toArray, List.set_cons_zero, List.set_cons_succ])
     refine wpAnyH_done (by kernel_rfl) ?_ _
     simp only [Only]
     go_wp2_with fail
     go_meet
     exact ⟨_, _, _, _, rfl, rfl, rfl, ⟨zr_made Xa.out Ga.out HNN.out, Xp.out, PRow.new12 Xb.out Gb.out HNN.out, zr_madeN Xc.out Gc.out HNN.out, Gp.out, NE_a_p.out, NE_a_b.out, NE_a_c.out, NE_p_b.out, NE_p_c.out, NE_b_c.out⟩, BV5⟩
    ·skip
     go_wp2_with fail
     obtain ⟨V6, hV⟩ : ∃ x, V2.alloc (.cells #[.slice none 0 0] 53) = x := ⟨_, rfl⟩
     have hb : Below V2.heap.size V2 V6 := by rw [← hV]; exact (Below.refl _ _).alloc (Nat.le_refl _) _
     have Xp := hid (show Blk V6 V2.heap.size (#[.slice none 0 0]) 53 by rw [← hV]; exact Blk.new _ _ _)
     have BV6 := hid (bnext BV2.out hb)
     have Gp := hid (show W.heap.size ≤ V2.heap.size from BV2.out.size)
     have NE_p_a := hid (show V2.heap.size ≠ V0.heap.size from Nat.ne_of_gt Xa.out.lt)
     have NE_a_p := hid (show V0.heap.size ≠ V2.heap.size from Nat.ne_of_lt Xa.out.lt)
     have NE_p_b := hid (show V2.heap.size ≠ V1.heap.size from Nat.ne_of_gt Xb.out.lt)
     have NE_b_p := hid (show V1.heap.size ≠ V2.heap.size from Nat.ne_of_lt Xb.out.lt)
     have Xa := hid (Xa.out.call hb)
     have Xb := hid (Xb.out.call hb)
     rw [hV]
     clear hb hV
     refine ⟨trivial, ?_⟩
     refine held_more (is := [10]) (g := 3) (by kernel_rfl) rfl trivial (by kernel_rfl) ?_
     iterate 1
      refine ⟨_, rfl, ?_⟩
      apply Exists.intro
      refine ⟨.inl ⟨by rfl, ?_⟩, ?_⟩
      ·(intro W' hW'; clear hW'; go_simp; try (with_reducible rfl))
      (dsimp only [Act.put]; try simp only [List.setIfInBounds_toArray, List.set_cons_zero, List.set_cons_succ])
     refine held_two (i := 8) (j := 11) (by kernel_rfl) (by rfl) (by rfl) (by rfl) (by rfl) ?_ ?_
     ·skip
      go_wp2_with fail
      obtain ⟨V7, hV⟩ : ∃ x, V6.alloc (.cells (madeCells #[.int .i64 0] N) 3) = x := ⟨_, rfl⟩
      have hb : Below V6.heap.size V6 V7 := by rw [← hV]; exact (Below.refl _ _).alloc (Nat.le_refl _) _
      have Xc := hid (show Blk V7 V6.heap.size (madeCells #[.int .i64 0] N) 3 by rw [← hV]; exact Blk.new _ _ _)
      have BV7 := hid (bnext BV6.out hb)
      have Gc := hid (show W.heap.size ≤ V6.heap.size from BV6.out.size)
      have NE_c_a := hid (show V6.heap.size ≠ V0.heap.size from Nat.ne_of_gt Xa.out.lt)
      have NE_a_c := hid (show V0.heap.size ≠ V6.heap.size from Nat.ne_of_lt Xa.out.lt)
      have NE_c_b := hid (show V6.heap.size ≠ V1.heap.size from Nat.ne_of_gt Xb.out.lt)
      have NE_b_c := hid (show V1.heap.size ≠ V6.heap.size from Nat.ne_of_lt Xb.out.lt)
      have NE_c_p := hid (show V6.heap.size ≠ V2.heap.size from Nat.ne_of_gt Xp.out.lt)
      have NE_p_c := hid (show V2.heap.size ≠ V6.heap.size from Nat.ne_of_lt Xp.out.lt)
      have Xa := hid (Xa.out.call hb)
      have Xb := hid (Xb.out.call hb)
      have Xp := hid (Xp.out.call hb)
      rw [hV]
      clear hb hV
      refine ⟨trivial, ?_⟩
      refine held_one (i := 11) (by kernel_rfl) (by rfl) (by rfl) ?_
      have r0 := Xp.out.cell 0
      have f0 := Xp.out.free 0
      simp at r0
      go_wp2_with fail
      have Xp := hid (Xp.out.set 0 (.slice (some ⟨V1.heap.size, 0, none⟩) N N))
      simp at Xp
      have BV8 := hid (BV7.out.setCell (p := ⟨V2.heap.size, 0, none⟩) Gp.out (.slice (some ⟨V1.heap.size, 0, none⟩) N N))
      have Xa := hid (show Blk _ (V0.heap.size) _ _ from (heap_set1 V7 (V2.heap.size) 0 (.slice (some ⟨V1.heap.size, 0, none⟩) N N) (g := V0.heap.size) NE_a_p.out).trans Xa.out)
      have Xb := hid (show Blk _ (V1.heap.size) _ _ from (heap_set1 V7 (V2.heap.size) 0 (.slice (some ⟨V1.heap.size, 0, none⟩) N N) (g := V1.heap.size) NE_b_p.out).trans Xb.out)
      have Xc := hid (show Blk _ (V6.heap.size) _ _ from (heap_set1 V7 (V2.heap.size) 0 (.slice (some ⟨V1.heap.size, 0, none⟩) N N) (g := V6.heap.size) NE_c_p.out).trans Xc.out)
      obtain ⟨V8, hV⟩ : ∃ x, V7.setCell ⟨V2.heap.size, 0, none⟩ (.slice (some ⟨V1.heap.size, 0, none⟩) N N) = x := ⟨_, rfl⟩
      rw [hV] at BV8 Xa Xb Xp Xc ⊢
      clear hV r0 f0
      refine ⟨trivial, ?_⟩
      refine held_more (is := [12]) (g := 0) (by kernel_rfl) rfl trivial (by kernel_rfl) ?_
      iterate 1
       refine ⟨_, rfl, ?_⟩
       apply Exists.intro
       refine ⟨.inl ⟨by rfl, ?_⟩, ?_⟩
       ·(intro W' hW'; clear hW'; go_simp; try (with_reducible rfl))
       (dsimp only [Act.put]; try simp only [List.setIfInBounds_toArray, List.set_cons_zero, List.set_cons_succ])
      refine wpAnyH_done (by kernel_rfl) ?_ _
      simp only [Only]
      go_wp2_with fail
      go_meet
      exact ⟨_, _, _, _, rfl, rfl, rfl, ⟨zr_made Xa.out Ga.out HNN.out, Xp.out, PRow.new12 Xb.out Gb.out HNN.out, zr_madeN Xc.out Gc.out HNN.out, Gp.out, NE_a_p.out, NE_a_b.out, NE_a_c.out, NE_p_b.out, NE_p_c.out, NE_b_c.out⟩, BV8⟩
     ·skip
      have r0 := Xp.out.cell 0
      have f0 := Xp.out.free 0
      simp at r0
      go_wp2_with fail
      have Xp := hid (Xp.out.set 0 (.slice (some ⟨V1.heap.size, 0, none⟩) N N))
      simp at Xp
      have BV9 := hid (BV6.out.setCell (p := ⟨V2.heap.size, 0, none⟩) Gp.out (.slice (some ⟨V1.heap.size, 0, none⟩) N N))
      have Xa := hid (show Blk _ (V0.heap.size) _ _ from (heap_set1 V6 (V2.heap.size) 0 (.slice (some ⟨V1.heap.size, 0, none⟩) N N) (g := V0.heap.size) NE_a_p.out).trans Xa.out)
      have Xb := hid (show Blk _ (V1.heap.size) _ _ from (heap_set1 V6 (V2.heap.size) 0 (.slice (some ⟨V1.heap.size, 0, none⟩) N N) (g := V1.heap.size) NE_b_p.out).trans Xb.out)
      obtain ⟨V9, hV⟩ : ∃ x, V6.setCell ⟨V2.heap.size, 0, none⟩ (.slice (some ⟨V1.heap.size, 0, none⟩) N N) = x := ⟨_, rfl⟩
      rw [hV] at BV9 Xa Xb Xp ⊢
      clear hV r0 f0
      refine ⟨trivial, ?_⟩
      refine held_one (i := 8) (by kernel_rfl) (by rfl) (by rfl) ?_
      go_wp2_with fail
      obtain ⟨V10, hV⟩ : ∃ x, V9.alloc (.cells (madeCells #[.int .i64 0] N) 3) = x := ⟨_, rfl⟩
      have hb : Below V9.heap.size V9 V10 := by rw [← hV]; exact (Below.refl _ _).alloc (Nat.le_refl _) _
      have Xc := hid (show Blk V10 V9.heap.size (madeCells #[.int .i64 0] N) 3 by rw [← hV]; exact Blk.new _ _ _)
      have BV10 := hid (bnext BV9.out hb)
      have Gc := hid (show W.heap.size ≤ V9.heap.size from BV9.out.size)
      have NE_c_a := hid (show V9.heap.size ≠ V0.heap.size from Nat.ne_of_gt Xa.out.lt)
      have NE_a_c := hid (show V0.heap.size ≠ V9.heap.size from Nat.ne_of_lt Xa.out.lt)
      have NE_c_b := hid (show V9.heap.size ≠ V1.heap.size from Nat.ne_of_gt Xb.out.lt)
      have NE_b_c := hid (show V1.heap.size ≠ V9.heap.size from Nat.ne_of_lt Xb.out.lt)
      have NE_c_p := hid (show V9.heap.size ≠ V2.heap.size from Nat.ne_of_gt Xp.out.lt)
      have NE_p_c := hid (show V2.heap.size ≠ V9.heap.size from Nat.ne_of_lt Xp.out.lt)
      have Xa := hid (Xa.out.call hb)
      have Xb := hid (Xb.out.call hb)
      have Xp := hid (Xp.out.call hb)
      rw [hV]
      clear hb hV
      refine ⟨trivial, ?_⟩
      refine held_more (is := [12]) (g := 0) (by kernel_rfl) rfl trivial (by kernel_rfl) ?_
      iterate 1
       refine ⟨_, rfl, ?_⟩
       apply Exists.intro
       refine ⟨.inl ⟨by rfl, ?_⟩, ?_⟩
       ·(intro W' hW'; clear hW'; go_simp; try (with_reducible rfl))
       (dsimp only [Act.put]; try simp only [List.setIfInBounds_toArray, List.set_cons_zero, List.set_cons_succ])
      refine wpAnyH_done (by kernel_rfl) ?_ _
      simp only [Only]
      go_wp2_with fail
      go_meet
      exact ⟨_, _, _, _, rfl, rfl, rfl, ⟨zr_made Xa.out Ga.out HNN.out, Xp.out, PRow.new12 Xb.out Gb.out HNN.out, zr_madeN Xc.out Gc.out HNN.out, Gp.out, NE_a_p.out, NE_a_b.out, NE_a_c.out, NE_p_b.out, NE_p_c.out, NE_b_c.out⟩, BV10⟩
   ·skip
    go_wp2_with fail
    obtain ⟨V11, hV⟩ : ∃ x, V1.alloc (.cells (madeCells #[.int .i64 0] N) 3) = x := ⟨_, rfl⟩
    have hb : Below V1.heap.size V1 V11 := by rw [← hV]; exact (Below.refl _ _).alloc (Nat.le_refl _) _
    have Xc := hid (show Blk V11 V1.heap.size (madeCells #[.int .i64 0] N) 3 by rw [← hV]; exact Blk.new _ _ _)
    have BV11 := hid (bnext BV1.out hb)
    have Gc := hid (show W.heap.size ≤ V1.heap.size from BV1.out.size)
    have NE_c_a := hid (show V1.heap.size ≠ V0.heap.size from Nat.ne_of_gt Xa.out.lt)
    have NE_a_c := hid (show V0.heap.size ≠ V1.heap.size from Nat.ne_of_lt Xa.out.lt)
    have Xa := hid (Xa.out.call hb)
    rw [hV]
    clear hb hV
    refine ⟨trivial, ?_⟩
    refine held_two (i := 5) (j := 9) (by kernel_rfl) (by rfl) (by rfl) (by rfl) (by rfl) ?_ ?_
    ·skip
     go_wp2_with fail
     obtain ⟨V12, hV⟩ : ∃ x, V11.alloc (.cells (rp3 (.bool false) zz zz N).toArray 57) = x := ⟨_, rfl⟩
     have hb : Below V11.heap.size V11 V12 := by rw [← hV]; exact (Below.refl _ _).alloc (Nat.le_refl _) _
     have Xb := hid (show Blk V12 V11.heap.size ((rp3 (.bool false) zz zz N).toArray) 57 by rw [← hV]; exact Blk.new _ _ _)
     have BV12 := hid (bnext BV11.out hb)
     have Gb := hid (show W.heap.size ≤ V11.heap.size from BV11.out.size)
     have NE_b_a := hid (show V11.heap.size ≠ V0.heap.size from Nat.ne_of_gt Xa.out.lt)
     have NE_a_b := hid (show V0.heap.size ≠ V11.heap.size from Nat.ne_of_lt Xa.out.lt)
     have NE_b_c := hid (show V11.heap.size ≠ V1.heap.size from Nat.ne_of_gt Xc.out.lt)
     have NE_c_b := hid (show V1.heap.size ≠ V11.heap.size from Nat.ne_of_lt Xc.out.lt)
     have Xa := hid (Xa.out.call hb)
     have Xc := hid (Xc.out.call hb)
     rw [hV]
     clear hb hV
     refine ⟨trivial, ?_⟩
     refine held_one (i := 9) (by kernel_rfl) (by rfl) (by rfl) ?_
     go_wp2_with fail
     obtain ⟨V13, hV⟩ : ∃ x, V12.alloc (.cells #[.slice none 0 0] 53) = x := ⟨_, rfl⟩
     have hb : Below V12.heap.size V12 V13 := by rw [← hV]; exact (Below.refl _ _).alloc (Nat.le_refl _) _
     have Xp := hid (show Blk V13 V12.heap.size (#[.slice none 0 0]) 53 by rw [← hV]; exact Blk.new _ _ _)
     have BV13 := hid (bnext BV12.out hb)
     have Gp := hid (show W.heap.size ≤ V12.heap.size from BV12.out.size)
     have NE_p_a := hid (show V12.heap.size ≠ V0.heap.size from Nat.ne_of_gt Xa.out.lt)
     have NE_a_p := hid (show V0.heap.size ≠ V12.heap.size from Nat.ne_of_lt Xa.out.lt)
     have NE_p_c := hid (show V12.heap.size ≠ V1.heap.size from Nat.ne_of_gt Xc.out.lt)
     have NE_c_p := hid (show V1.heap.size ≠ V12.heap.size from Nat.ne_of_lt Xc.out.lt)
     have NE_p_b := hid (show V12.heap.size ≠ V11.heap.size from Nat.ne_of_gt Xb.out.lt)
     have NE_b_p := hid (show V11.heap.size ≠ V12.heap.size from Nat.ne_of_lt Xb.out.lt)
     have Xa := hid (Xa.out.call hb)
     have Xc := hid (Xc.out.call hb)
     have Xb := hid (Xb.out.call hb)
     rw [hV]
     clear hb hV
     refine ⟨trivial, ?_⟩
     refine held_more (is := [10]) (g := 2) (by kernel_rfl) rfl trivial (by kernel_rfl) ?_
     iterate 1
      refine ⟨_, rfl, ?_⟩
      apply Exists.intro
      refine ⟨.inl ⟨by rfl, ?_⟩, ?_⟩
      ·(intro W' hW'; clear hW'; go_simp; try (with_reducible rfl))
      (dsimp only [Act.put]; try simp only [List.setIfInBounds_toArray, List.set_cons_zero, List.set_cons_succ])
     refine held_one (i := 11) (by kernel_rfl) (by rfl) (by rfl) ?_
     have r0 := Xp.out.cell 0
     have f0 := Xp.out.free 0
     simp at r0
     go_wp2_with fail
     have Xp := hid (Xp.out.set 0 (.slice (some ⟨V11.heap.size, 0, none⟩) N N))
     simp at Xp
     have BV14 := hid (BV13.out.setCell (p := ⟨V12.heap.size, 0, none⟩) Gp.out (.slice (some ⟨V11.heap.size, 0, none⟩) N N))
     have Xa := hid (show Blk _ (V0.heap.size) _ _ from (heap_set1 V13 (V12.heap.size) 0 (.slice (some ⟨V11.heap.size, 0, none⟩) N N) (g := V0.heap.size) NE_a_p.out).trans Xa.out)
     have Xc := hid (show Blk _ (V1.heap.size) _ _ from (heap_set1 V13 (V12.heap.size) 0 (.slice (some ⟨V11.heap.size, 0, none⟩) N N) (g := V1.heap.size) NE_c_p.out).trans Xc.out)
     have Xb := hid (show Blk _ (V11.heap.size) _ _ from (heap_set1 V13 (V12.heap.size) 0 (.slice (some ⟨V11.heap.size, 0, none⟩) N N) (g := V11.heap.size) NE_b_p.out).trans Xb.out)
     obtain ⟨V14, hV⟩ : ∃ x, V13.setCell ⟨V12.heap.size, 0, none⟩ (.slice (some ⟨V11.heap.size, 0, none⟩) N N) = x := ⟨_, rfl⟩
     rw [hV] at BV14 Xa Xc Xb Xp ⊢
     clear hV r0 f0
     refine ⟨trivial, ?_⟩
     refine held_more (is := [12]) (g := 0) (by kernel_rfl) rfl trivial (by kernel_rfl) ?_
     iterate 1
      refine ⟨_, rfl, ?_⟩
      apply Exists.intro
      refine ⟨.inl ⟨by rfl, ?_⟩, ?_⟩
      ·(intro W' hW'; clear hW'; go_simp; try (with_reducible rfl))
      (dsimp only [Act.put]; try simp only [List.setIfInBounds_toArray, List.set_cons_zero, List.set_cons_succ])
     refine wpAnyH_done (by kernel_rfl) ?_ _
     simp only [Only]
     go_wp2_with fail
     go_meet
     exact ⟨_, _, _, _, rfl, rfl, rfl, ⟨zr_made Xa.out Ga.out HNN.out, Xp.out, PRow.new12 Xb.out Gb.out HNN.out, zr_madeN Xc.out Gc.out HNN.out, Gp.out, NE_a_p.out, NE_a_b.out, NE_a_c.out, NE_p_b.out, NE_p_c.out, NE_b_c.out⟩, BV14⟩
    ·skip
     go_wp2_with fail
     obtain ⟨V15, hV⟩ : ∃ x, V11.alloc (.cells #[.slice none 0 0] 53) = x := ⟨_, rfl⟩
     have hb : Below V11.heap.size V11 V15 := by rw [← hV]; exact (Below.refl _ _).alloc (Nat.le_refl _) _
     have Xp := hid (show Blk V15 V11.heap.size (#[.slice none 0 0]) 53 by rw [← hV]; exact Blk.new _ _ _)
     have BV15 := hid (bnext BV11.out hb)
     have Gp := hid (show W.heap.size ≤ V11.heap.size from BV11.out.size)
     have NE_p_a := hid (show V11.heap.size ≠ V0.heap.size from Nat.ne_of_gt Xa.out.lt)
     have NE_a_p := hid (show V0.heap.size ≠ V11.heap.size from Nat.ne_of_lt Xa.out.lt)
     have NE_p_c := hid (show V11.heap.size ≠ V1.heap.size from Nat.ne_of_gt Xc.out.lt)
     have NE_c_p := hid (show V1.heap.size ≠ V11.heap.size from Nat.ne_of_lt Xc.out.lt)
     have Xa := hid (Xa.out.call hb)
     have Xc := hid (Xc.out.call hb)
     rw [hV]
     clear hb hV
     refine ⟨trivial, ?_⟩
     refine held_more (is := [10]) (g := 3) (by kernel_rfl) rfl trivial (by kernel_rfl) ?_
     iterate 1
      refine ⟨_, rfl, ?_⟩
      apply Exists.intro
      refine ⟨.inl ⟨by rfl, ?_⟩, ?_⟩
      ·(intro W' hW'; clear hW'; go_simp; try (with_reducible rfl))
      (dsimp only [Act.put]; try simp only [List.setIfInBounds_toArray, List.set_cons_zero, List.set_cons_succ])
     refine held_one (i := 5) (by kernel_rfl) (by rfl) (by rfl) ?_
     go_wp2_with fail
     obtain ⟨V16, hV⟩ : ∃ x, V15.alloc (.cells (rp3 (.bool false) zz zz N).toArray 57) = x := ⟨_, rfl⟩
     have hb : Below V15.heap.size V15 V16 := by rw [← hV]; exact (Below.refl _ _).alloc (Nat.le_refl _) _
     have Xb := hid (show Blk V16 V15.heap.size ((rp3 (.bool false) zz zz N).toArray) 57 by rw [← hV]; exact Blk.new _ _ _)
     have BV16 := hid (bnext BV15.out hb)
     have Gb := hid (show W.heap.size ≤ V15.heap.size from BV15.out.size)
     have NE_b_a := hid (show V15.heap.size ≠ V0.heap.size from Nat.ne_of_gt Xa.out.lt)
     have NE_a_b := hid (show V0.heap.size ≠ V15.heap.size from Nat.ne_of_lt Xa.out.lt)
     have NE_b_c := hid (show V15.heap.size ≠ V1.heap.size from Nat.ne_of_gt Xc.out.lt)
     have NE_c_b := hid (show V1.heap.size ≠ V15.heap.size from Nat.ne_of_lt Xc.out.lt)
     have NE_b_p := hid (show V15.heap.size ≠ V11.heap.size from Nat.ne_of_gt Xp.out.lt)
     have NE_p_b := hid (show V11.heap.size ≠ V15.heap.size from Nat.ne_of_lt Xp.out.lt)
     have Xa := hid (Xa.out.call hb)
     have Xc := hid (Xc.out.call hb)
     have Xp := hid (Xp.out.call hb)
     rw [hV]
     clear hb hV
     refine ⟨trivial, ?_⟩
     refine held_one (i := 11) (by kernel_rfl) (by rfl) (by rfl) ?_
     have r0 := Xp.out.cell 0
     have f0 := Xp.out.free 0
     simp at r0
     go_wp2_with fail
     have Xp := hid (Xp.out.set 0 (.slice (some ⟨V15.heap.size, 0, none⟩) N N))
     simp at Xp
     have BV17 := hid (BV16.out.setCell (p := ⟨V11.heap.size, 0, none⟩) Gp.out (.slice (some ⟨V15.heap.size, 0, none⟩) N N))
     have Xa := hid (show Blk _ (V0.heap.size) _ _ from (heap_set1 V16 (V11.heap.size) 0 (.slice (some ⟨V15.heap.size, 0, none⟩) N N) (g := V0.heap.size) NE_a_p.out).trans Xa.out)
     have Xc := hid (show Blk _ (V1.heap.size) _ _ from (heap_set1 V16 (V11.heap.size) 0 (.slice (some ⟨V15.heap.size, 0, none⟩) N N) (g := V1.heap.size) NE_c_p.out).trans Xc.out)
     have Xb := hid (show Blk _ (V15.heap.size) _ _ from (heap_set1 V16 (V11.heap.size) 0 (.slice (some ⟨V15.heap.size, 0, none⟩) N N) (g := V15.heap.size) NE_b_p.out).trans Xb.out)
     obtain ⟨V17, hV⟩ : ∃ x, V16.setCell ⟨V11.heap.size, 0, none⟩ (.slice (some ⟨V15.heap.size, 0, none⟩) N N) = x := ⟨_, rfl⟩
     rw [hV] at BV17 Xa Xc Xp Xb ⊢
     clear hV r0 f0
     refine ⟨trivial, ?_⟩
     refine held_more (is := [12]) (g := 0) (by kernel_rfl) rfl trivial (by kernel_rfl) ?_
     iterate 1
      refine ⟨_, rfl, ?_⟩
      apply Exists.intro
      refine ⟨.inl ⟨by rfl, ?_⟩, ?_⟩
      ·(intro W' hW'; clear hW'; go_simp; try (with_reducible rfl))
      (dsimp only [Act.put]; try simp only [List.setIfInBounds_toArray, List.set_cons_zero, List.set_cons_succ])
     refine wpAnyH_done (by kernel_rfl) ?_ _
     simp only [Only]
     go_wp2_with fail
     go_meet
     exact ⟨_, _, _, _, rfl, rfl, rfl, ⟨zr_made Xa.out Ga.out HNN.out, Xp.out, PRow.new12 Xb.out Gb.out HNN.out, zr_madeN Xc.out Gc.out HNN.out, Gp.out, NE_a_p.out, NE_a_b.out, NE_a_c.out, NE_p_b.out, NE_p_c.out, NE_b_c.out⟩, BV17⟩
   ·skip
    go_wp2_with fail
    obtain ⟨V18, hV⟩ : ∃ x, V1.alloc (.cells #[.slice none 0 0] 53) = x := ⟨_, rfl⟩
    have hb : Below V1.heap.size V1 V18 := by rw [← hV]; exact (Below.refl _ _).alloc (Nat.le_refl _) _
    have Xp := hid (show Blk V18 V1.heap.size (#[.slice none 0 0]) 53 by rw [← hV]; exact Blk.new _ _ _)
    have BV18 := hid (bnext BV1.out hb)
    have Gp := hid (show W.heap.size ≤ V1.heap.size from BV1.out.size)
    have NE_p_a := hid (show V1.heap.size ≠ V0.heap.size from Nat.ne_of_gt Xa.out.lt)
    have NE_a_p := hid (show V0.heap.size ≠ V1.heap.size from Nat.ne_of_lt Xa.out.lt)
    have Xa := hid (Xa.out.call hb)
    rw [hV]
    clear hb hV
    refine ⟨trivial, ?_⟩
    refine held_more (is := [10]) (g := 4) (by kernel_rfl) rfl trivial (by kernel_rfl) ?_
    iterate 1
     refine ⟨_, rfl, ?_⟩
     apply Exists.intro
     refine ⟨.inl ⟨by rfl, ?_⟩, ?_⟩
     ·(intro W' hW'; clear hW'; go_simp; try (with_reducible rfl))
     (dsimp only [Act.put]; try simp only [List.setIfInBounds_toArray, List.set_cons_zero, List.set_cons_succ])
    refine held_two (i := 5) (j := 8) (by kernel_rfl) (by rfl) (by rfl) (by rfl) (by rfl) ?_ ?_
    ·skip
     go_wp2_with fail
     obtain ⟨V19, hV⟩ : ∃ x, V18.alloc (.cells (rp3 (.bool false) zz zz N).toArray 57) = x := ⟨_, rfl⟩
     have hb : Below V18.heap.size V18 V19 := by rw [← hV]; exact (Below.refl _ _).alloc (Nat.le_refl _) _
     have Xb := hid (show Blk V19 V18.heap.size ((rp3 (.bool false) zz zz N).toArray) 57 by rw [← hV]; exact Blk.new _ _ _)
     have BV19 := hid (bnext BV18.out hb)
     have Gb := hid (show W.heap.size ≤ V18.heap.size from BV18.out.size)
     have NE_b_a := hid (show V18.heap.size ≠ V0.heap.size from Nat.ne_of_gt Xa.out.lt)
     have NE_a_b := hid (show V0.heap.size ≠ V18.heap.size from Nat.ne_of_lt Xa.out.lt)
     have NE_b_p := hid (show V18.heap.size ≠ V1.heap.size from Nat.ne_of_gt Xp.out.lt)
     have NE_p_b := hid (show V1.heap.size ≠ V18.heap.size from Nat.ne_of_lt Xp.out.lt)
     have Xa := hid (Xa.out.call hb)
     have Xp := hid (Xp.out.call hb)
     rw [hV]
     clear hb hV
     refine ⟨trivial, ?_⟩
     refine held_two (i := 8) (j := 11) (by kernel_rfl) (by rfl) (by rfl) (by rfl) (by rfl) ?_ ?_
     ·skip
      go_wp2_with fail
      obtain ⟨V20, hV⟩ : ∃ x, V19.alloc (.cells (madeCells #[.int .i64 0] N) 3) = x := ⟨_, rfl⟩
      have hb : Below V19.heap.size V19 V20 := by rw [← hV]; exact (Below.refl _ _).alloc (Nat.le_refl _) _
      have Xc := hid (show Blk V20 V19.heap.size (madeCells #[.int .i64 0] N) 3 by rw [← hV]; exact Blk.new _ _ _)
      have BV20 := hid (bnext BV19.out hb)
      have Gc := hid (show W.heap.size ≤ V19.heap.size from BV19.out.size)
      have NE_c_a := hid (show V19.heap.size ≠ V0.heap.size from Nat.ne_of_gt Xa.out.lt)
      have NE_a_c := hid (show V0.heap.size ≠ V19.heap.size from Nat.ne_of_lt Xa.out.lt)
      have NE_c_p := hid (show V19.heap.size ≠ V1.heap.size from Nat.ne_of_gt Xp.out.lt)
      have NE_p_c := hid (show V1.heap.size ≠ V19.heap.size from Nat.ne_of_lt Xp.out.lt)
      have NE_c_b := hid (show V19.heap.size ≠ V18.heap.size from Nat.ne_of_gt Xb.out.lt)
      have NE_b_c := hid (show V18.heap.size ≠ V19.heap.size from Nat.ne_of_lt Xb.out.lt)
      have Xa := hid (Xa.out.call hb)
      have Xp := hid (Xp.out.call hb)
      have Xb := hid (Xb.out.call hb)
      rw [hV]
      clear hb hV
      refine ⟨trivial, ?_⟩
      refine held_one (i := 11) (by kernel_rfl) (by rfl) (by rfl) ?_
      have r0 := Xp.out.cell 0
      have f0 := Xp.out.free 0
      simp at r0
      go_wp2_with fail
      have Xp := hid (Xp.out.set 0 (.slice (some ⟨V18.heap.size, 0, none⟩) N N))
      simp at Xp
      have BV21 := hid (BV20.out.setCell (p := ⟨V1.heap.size, 0, none⟩) Gp.out (.slice (some ⟨V18.heap.size, 0, none⟩) N N))
      have Xa := hid (show Blk _ (V0.heap.size) _ _ from (heap_set1 V20 (V1.heap.size) 0 (.slice (some ⟨V18.heap.size, 0, none⟩) N N) (g := V0.heap.size) NE_a_p.out).trans Xa.out)
      have Xb := hid (show Blk _ (V18.heap.size) _ _ from (heap_set1 V20 (V1.heap.size) 0 (.slice (some ⟨V18.heap.size, 0, none⟩) N N) (g := V18.heap.size) NE_b_p.out).trans Xb.out)
      have Xc := hid (show Blk _ (V19.heap.size) _ _ from (heap_set1 V20 (V1.heap.size) 0 (.slice (some ⟨V18.heap.size, 0, none⟩) N N) (g := V19.heap.size) NE_c_p.out).trans Xc.out)
      obtain ⟨V21, hV⟩ : ∃ x, V20.setCell ⟨V1.heap.size, 0, none⟩ (.slice (some ⟨V18.heap.size, 0, none⟩) N N) = x := ⟨_, rfl⟩
      rw [hV] at BV21 Xa Xp Xb Xc ⊢
      clear hV r0 f0
      refine ⟨trivial, ?_⟩
      refine held_more (is := [12]) (g := 0) (by kernel_rfl) rfl trivial (by kernel_rfl) ?_
      iterate 1
       refine ⟨_, rfl, ?_⟩
       apply Exists.intro
       refine ⟨.inl ⟨by rfl, ?_⟩, ?_⟩
       ·(intro W' hW'; clear hW'; go_simp; try (with_reducible rfl))
       (dsimp only [Act.put]; try simp only [List.setIfInBounds_toArray, List.set_cons_zero, List.set_cons_succ])
      refine wpAnyH_done (by kernel_rfl) ?_ _
      simp only [Only]
      go_wp2_with fail
      go_meet
      exact ⟨_, _, _, _, rfl, rfl, rfl, ⟨zr_made Xa.out Ga.out HNN.out, Xp.out, PRow.new12 Xb.out Gb.out HNN.out, zr_madeN Xc.out Gc.out HNN.out, Gp.out, NE_a_p.out, NE_a_b.out, NE_a_c.out, NE_p_b.out, NE_p_c.out, NE_b_c.out⟩, BV21⟩
     ·skip
      have r0 := Xp.out.cell 0
      have f0 := Xp.out.free 0
      simp at r0
      go_wp2_with fail
      have Xp := hid (Xp.out.set 0 (.slice (some ⟨V18.heap.size, 0, none⟩) N N))
      simp at Xp
      have BV22 := hid (BV19.out.setCell (p := ⟨V1.heap.size, 0, none⟩) Gp.out (.slice (some ⟨V18.heap.size, 0, none⟩) N N))
      have Xa := hid (show Blk _ (V0.heap.size) _ _ from (heap_set1 V19 (V1.heap.size) 0 (.slice (some ⟨V18.heap.size, 0, none⟩) N N) (g := V0.heap.size) NE_a_p.out).trans Xa.out)
      have Xb := hid (show Blk _ (V18.heap.size) _ _ from (heap_set1 V19 (V1.heap.size) 0 (.slice (some ⟨V18.heap.size, 0, none⟩) N N) (g := V18.heap.size) NE_b_p.out).trans Xb.out)
      obtain ⟨V22, hV⟩ : ∃ x, V19.setCell ⟨V1.heap.size, 0, none⟩ (.slice (some ⟨V18.heap.size, 0, none⟩) N N) = x := ⟨_, rfl⟩
      rw [hV] at BV22 Xa Xp Xb ⊢
      clear hV r0 f0
      refine ⟨trivial, ?_⟩
      refine held_one (i := 8) (by kernel_rfl) (by rfl) (by rfl) ?_
      go_wp2_with fail
      obtain ⟨V23, hV⟩ : ∃ x, V22.alloc (.cells (madeCells #[.int .i64 0] N) 3) = x := ⟨_, rfl⟩
      have hb : Below V22.heap.size V22 V23 := by rw [← hV]; exact (Below.refl _ _).alloc (Nat.le_refl _) _
      have Xc := hid (show Blk V23 V22.heap.size (madeCells #[.int .i64 0] N) 3 by rw [← hV]; exact Blk.new _ _ _)
      have BV23 := hid (bnext BV22.out hb)
      have Gc := hid (show W.heap.size ≤ V22.heap.size from BV22.out.size)
      have NE_c_a := hid (show V22.heap.size ≠ V0.heap.size from Nat.ne_of_gt Xa.out.lt)
      have NE_a_c := hid (show V0.heap.size ≠ V22.heap.size from Nat.ne_of_lt Xa.out.lt)
      have NE_c_p := hid (show V22.heap.size ≠ V1.heap.size from Nat.ne_of_gt Xp.out.lt)
      have NE_p_c := hid (show V1.heap.size ≠ V22.heap.size from Nat.ne_of_lt Xp.out.lt)
      have NE_c_b := hid (show V22.heap.size ≠ V18.heap.size from Nat.ne_of_gt Xb.out.lt)
      have NE_b_c := hid (show V18.heap.size ≠ V22.heap.size from Nat.ne_of_lt Xb.out.lt)
      have Xa := hid (Xa.out.call hb)
      have Xp := hid (Xp.out.call hb)
      have Xb := hid (Xb.out.call hb)
      rw [hV]
      clear hb hV
      refine ⟨trivial, ?_⟩
      refine held_more (is := [12]) (g := 0) (by kernel_rfl) rfl trivial (by kernel_rfl) ?_
      iterate 1
       refine ⟨_, rfl, ?_⟩
       apply Exists.intro
       refine ⟨.inl ⟨by rfl, ?_⟩, ?_⟩
       ·(intro W' hW'; clear hW'; go_simp; try (with_reducible rfl))
       (dsimp only [Act.put]; try simp only [List.setIfInBounds_toArray, List.set_cons_zero, List.set_cons_succ])
      refine wpAnyH_done (by kernel_rfl) ?_ _
      simp only [Only]
      go_wp2_with fail
      go_meet
      exact ⟨_, _, _, _, rfl, rfl, rfl, ⟨zr_made Xa.out Ga.out HNN.out, Xp.out, PRow.new12 Xb.out Gb.out HNN.out, zr_madeN Xc.out Gc.out HNN.out, Gp.out, NE_a_p.out, NE_a_b.out, NE_a_c.out, NE_p_b.out, NE_p_c.out, NE_b_c.out⟩, BV23⟩
    ·skip
     go_wp2_with fail
     obtain ⟨V24, hV⟩ : ∃ x, V18.alloc (.cells (madeCells #[.int .i64 0] N) 3) = x := ⟨_, rfl⟩
     have hb : Below V18.heap.size V18 V24 := by rw [← hV]; exact (Below.refl _ _).alloc (Nat.le_refl _) _
     have Xc := hid (show Blk V24 V18.heap.size (madeCells #[.int .i64 0] N) 3 by rw [← hV]; exact Blk.new _ _ _)
     have BV24 := hid (bnext BV18.out hb)
     have Gc := hid (show W.heap.size ≤ V18.heap.size from BV18.out.size)
     have NE_c_a := hid (show V18.heap.size ≠ V0.heap.size from Nat.ne_of_gt Xa.out.lt)
     have NE_a_c := hid (show V0.heap.size ≠ V18.heap.size from Nat.ne_of_lt Xa.out.lt)
     have NE_c_p := hid (show V18.heap.size ≠ V1.heap.size from Nat.ne_of_gt Xp.out.lt)
     have NE_p_c := hid (show V1.heap.size ≠ V18.heap.size from Nat.ne_of_lt Xp.out.lt)
     have Xa := hid (Xa.out.call hb)
     have Xp := hid (Xp.out.call hb)
     rw [hV]
     clear hb hV
     refine ⟨trivial, ?_⟩
     refine held_one (i := 5) (by kernel_rfl) (by rfl) (by rfl) ?_
     go_wp2_with fail
     obtain ⟨V25, hV⟩ : ∃ x, V24.alloc (.cells (rp3 (.bool false) zz zz N).toArray 57) = x := ⟨_, rfl⟩
     have hb : Below V24.heap.size V24 V25 := by rw [← hV]; exact (Below.refl _ _).alloc (Nat.le_refl _) _
     have Xb := hid (show Blk V25 V24.heap.size ((rp3 (.bool false) zz zz N).toArray) 57 by rw [← hV]; exact Blk.new _ _ _)
     have BV25 := hid (bnext BV24.out hb)
     have Gb := hid (show W.heap.size ≤ V24.heap.size from BV24.out.size)
     have NE_b_a := hid (show V24.heap.size ≠ V0.heap.size from Nat.ne_of_gt Xa.out.lt)
     have NE_a_b := hid (show V0.heap.size ≠ V24.heap.size from Nat.ne_of_lt Xa.out.lt)
     have NE_b_p := hid (show V24.heap.size ≠ V1.heap.size from Nat.ne_of_gt Xp.out.lt)
     have NE_p_b := hid (show V1.heap.size ≠ V24.heap.size from Nat.ne_of_lt Xp.out.lt)
     have NE_b_c := hid (show V24.heap.size ≠ V18.heap.size from Nat.ne_of_gt Xc.out.lt)
     have NE_c_b := hid (show V18.heap.size ≠ V24.heap.size from Nat.ne_of_lt Xc.out.lt)
     have Xa := hid (Xa.out.call hb)
     have Xp := hid (Xp.out.call hb)
     have Xc := hid (Xc.out.call hb)
     rw [hV]
     clear hb hV
     refine ⟨trivial, ?_⟩
     refine held_one (i := 11) (by kernel_rfl) (by rfl) (by rfl) ?_
     have r0 := Xp.out.cell 0
     have f0 := Xp.out.free 0
     simp at r0
     go_wp2_with fail
     have Xp := hid (Xp.out.set 0 (.slice (some ⟨V24.heap.size, 0, none⟩) N N))
     simp at Xp
     have BV26 := hid (BV25.out.setCell (p := ⟨V1.heap.size, 0, none⟩) Gp.out (.slice (some ⟨V24.heap.size, 0, none⟩) N N))
     have Xa := hid (show Blk _ (V0.heap.size) _ _ from (heap_set1 V25 (V1.heap.size) 0 (.slice (some ⟨V24.heap.size, 0, none⟩) N N) (g := V0.heap.size) NE_a_p.out).trans Xa.out)
     have Xc := hid (show Blk _ (V18.heap.size) _ _ from (heap_set1 V25 (V1.heap.size) 0 (.slice (some ⟨V24.heap.size, 0, none⟩) N N) (g := V18.heap.size) NE_c_p.out).trans Xc.out)
     have Xb := hid (show Blk _ (V24.heap.size) _ _ from (heap_set1 V25 (V1.heap.size) 0 (.slice (some ⟨V24.heap.size, 0, none⟩) N N) (g := V24.heap.size) NE_b_p.out).trans Xb.out)
     obtain ⟨V26, hV⟩ : ∃ x, V25.setCell ⟨V1.heap.size, 0, none⟩ (.slice (some ⟨V24.heap.size, 0, none⟩) N N) = x := ⟨_, rfl⟩
     rw [hV] at BV26 Xa Xp Xc Xb ⊢
     clear hV r0 f0
     refine ⟨trivial, ?_⟩
     refine held_more (is := [12]) (g := 0) (by kernel_rfl) rfl trivial (by kernel_rfl) ?_
     iterate 1
      refine ⟨_, rfl, ?_⟩
      apply Exists.intro
      refine ⟨.inl ⟨by rfl, ?_⟩, ?_⟩
      ·(intro W' hW'; clear hW'; go_simp; try (with_reducible rfl))
      (dsimp only [Act.put]; try simp only [List.setIfInBounds_toArray, List.set_cons_zero, List.set_cons_succ])
     refine wpAnyH_done (by kernel_rfl) ?_ _
     simp only [Only]
     go_wp2_with fail
     go_meet
     exact ⟨_, _, _, _, rfl, rfl, rfl, ⟨zr_made Xa.out Ga.out HNN.out, Xp.out, PRow.new12 Xb.out Gb.out HNN.out, zr_madeN Xc.out Gc.out HNN.out, Gp.out, NE_a_p.out, NE_a_b.out, NE_a_c.out, NE_p_b.out, NE_p_c.out, NE_b_c.out⟩, BV26⟩
  ·skip
   go_wp2_with fail
   obtain ⟨V27, hV⟩ : ∃ x, V0.alloc (.cells (rp3 (.bool false) zz zz N).toArray 57) = x := ⟨_, rfl⟩
   have hb : Below V0.heap.size V0 V27 := by rw [← hV]; exact (Below.refl _ _).alloc (Nat.le_refl _) _
   have Xb := hid (show Blk V27 V0.heap.size ((rp3 (.bool false) zz zz N).toArray) 57 by rw [← hV]; exact Blk.new _ _ _)
   have BV27 := hid (bnext BV0.out hb)
   have Gb := hid (show W.heap.size ≤ V0.heap.size from BV0.out.size)
   rw [hV]
   clear hb hV
   refine ⟨trivial, ?_⟩
   refine held_three (i := 2) (j := 8) (k := 9) (by kernel_rfl) (by rfl) (by rfl) (by rfl) (by rfl) (by rfl) (by rfl) ?_ ?_ ?_
   ·skip
    go_wp2_with fail
    obtain ⟨V28, hV⟩ : ∃ x, V27.alloc (.cells (madeCells #[.int .i64 0] N) 3) = x := ⟨_, rfl⟩
    have hb : Below V27.heap.size V27 V28 := by rw [← hV]; exact (Below.refl _ _).alloc (Nat.le_refl _) _
    have Xa := hid (show Blk V28 V27.heap.size (madeCells #[.int .i64 0] N) 3 by rw [← hV]; exact Blk.new _ _ _)
    have BV28 := hid (bnext BV27.out hb)
    have Ga := hid (show W.heap.size ≤ V27.heap.size from BV27.out.size)
    have NE_a_b := hid (show V27.heap.size ≠ V0.heap.size from Nat.ne_of_gt Xb.out.lt)
    have NE_b_a := hid (show V0.heap.size ≠ V27.heap.size from Nat.ne_of_lt Xb.out.lt)
    have Xb := hid (Xb.out.call hb)
    rw [hV]
    clear hb hV
    refine ⟨trivial, ?_⟩
    refine held_two (i := 8) (j := 9) (by kernel_rfl) (by rfl) (by rfl) (by rfl) (by rfl) ?_ ?_
    ·skip
     go_wp2_with fail
     obtain ⟨V29, hV⟩ : ∃ x, V28.alloc (.cells (madeCells #[.int .i64 0] N) 3) = x := ⟨_, rfl⟩
     have hb : Below V28.heap.size V28 V29 := by rw [← hV]; exact (Below.refl _ _).alloc (Nat.le_refl _) _
     have Xc := hid (show Blk V29 V28.heap.size (madeCells #[.int .i64 0] N) 3 by rw [← hV]; exact Blk.new _ _ _)
     have BV29 := hid (bnext BV28.out hb)
     have Gc := hid (show W.heap.size ≤ V28.heap.size from BV28.out.size)
     have NE_c_b := hid (show V28.heap.size ≠ V0.heap.size from Nat.ne_of_gt Xb.out.lt)
     have NE_b_c := hid (show V0.heap.size ≠ V28.heap.size from Nat.ne_of_lt Xb.out.lt)
     have NE_c_a := hid (show V28.heap.size ≠ V27.heap.size from Nat.ne_of_gt Xa.out.lt)
     have NE_a_c := hid (show V27.heap.size ≠ V28.heap.size from Nat.ne_of_lt Xa.out.lt)
     have Xb := hid (Xb.out.call hb)
     have Xa := hid (Xa.out.call hb)
     rw [hV]
     clear hb hV
     refine ⟨trivial, ?_⟩
     refine held_one (i := 9) (by kernel_rfl) (by rfl) (by rfl) ?_
     go_wp2_with fail
     obtain ⟨V30, hV⟩ : ∃ x, V29.alloc (.cells #[.slice none 0 0] 53) = x := ⟨_, rfl⟩
     have hb : Below V29.heap.size V29 V30 := by rw [← hV]; exact (Below.refl _ _).alloc (Nat.le_refl _) _
     have Xp := hid (show Blk V30 V29.heap.size (#[.slice none 0 0]) 53 by rw [← hV]; exact Blk.new _ _ _)
     have BV30 := hid (bnext BV29.out hb)
     have Gp := hid (show W.heap.size ≤ V29.heap.size from BV29.out.size)
     have NE_p_b := hid (show V29.heap.size ≠ V0.heap.size from Nat.ne_of_gt Xb.out.lt)
     have NE_b_p := hid (show V0.heap.size ≠ V29.heap.size from Nat.ne_of_lt Xb.out.lt)
     have NE_p_a := hid (show V29.heap.size ≠ V27.heap.size from Nat.ne_of_gt Xa.out.lt)
     have NE_a_p := hid (show V27.heap.size ≠ V29.heap.size from Nat.ne_of_lt Xa.out.lt)
     have NE_p_c := hid (show V29.heap.size ≠ V28.heap.size from Nat.ne_of_gt Xc.out.lt)
     have NE_c_p := hid (show V28.heap.size ≠ V29.heap.size from Nat.ne_of_lt Xc.out.lt)
     have Xb := hid (Xb.out.call hb)
     have Xa := hid (Xa.out.call hb)
     have Xc := hid (Xc.out.call hb)
     rw [hV]
     clear hb hV
     refine ⟨trivial, ?_⟩
     refine held_more (is := [10]) (g := 2) (by kernel_rfl) rfl trivial (by kernel_rfl) ?_
     iterate 1
      refine ⟨_, rfl, ?_⟩
      apply Exists.intro
      refine ⟨.inl ⟨by rfl, ?_⟩, ?_⟩
      ·(intro W' hW'; clear hW'; go_simp; try (with_reducible rfl))
      (dsimp only [Act.put]; try simp only [List.setIfInBounds_toArray, List.set_cons_zero, List.set_cons_succ])
     refine held_one (i := 11) (by kernel_rfl) (by rfl) (by rfl) ?_
     have r0 := Xp.out.cell 0
     have f0 := Xp.out.free 0
     simp at r0
     go_wp2_with fail
     have Xp := hid (Xp.out.set 0 (.slice (some ⟨V0.heap.size, 0, none⟩) N N))
     simp at Xp
     have BV31 := hid (BV30.out.setCell (p := ⟨V29.heap.size, 0, none⟩) Gp.out (.slice (some ⟨V0.heap.size, 0, none⟩) N N))
     have Xb := hid (show Blk _ (V0.heap.size) _ _ from (heap_set1 V30 (V29.heap.size) 0 (.slice (some ⟨V0.heap.size, 0, none⟩) N N) (g := V0.heap.size) NE_b_p.out).trans Xb.out)
     have Xa := hid (show Blk _ (V27.heap.size) _ _ from (heap_set1 V30 (V29.heap.size) 0 (.slice (some ⟨V0.heap.size, 0, none⟩) N N) (g := V27.heap.size) NE_a_p.out).trans Xa.out)
     have Xc := hid (show Blk _ (V28.heap.size) _ _ from (heap_set1 V30 (V29.heap.size) 0 (.slice (some ⟨V0.heap.size, 0, none⟩) N N) (g := V28.heap.size) NE_c_p.out).trans Xc.out)
     obtain ⟨V31, hV⟩ : ∃ x, V30.setCell ⟨V29.heap.size, 0, none⟩ (.slice (some ⟨V0.heap.size, 0, none⟩) N N) = x := ⟨_, rfl⟩
     rw [hV] at BV31 Xb Xa Xc Xp ⊢
     clear hV r0 f0
     refine ⟨trivial, ?_⟩
     refine held_more (is := [12]) (g := 0) (by kernel_rfl) rfl trivial (by kernel_rfl) ?_
     iterate 1
      refine ⟨_, rfl, ?_⟩
      apply Exists.intro
      refine ⟨.inl ⟨by rfl, ?_⟩, ?_⟩
      ·(intro W' hW'; clear hW'; go_simp; try (with_reducible rfl))
      (dsimp only [Act.put]; try simp only [List.setIfInBounds_toArray, List.set_cons_zero, List.set_cons_succ])
     refine wpAnyH_done (by kernel_rfl) ?_ _
     simp only [Only]
     go_wp2_with fail
     go_meet
     exact ⟨_, _, _, _, rfl, rfl, rfl, ⟨zr_made Xa.out Ga.out HNN.out, Xp.out, PRow.new12 Xb.out Gb.out HNN.out, zr_madeN Xc.out Gc.out HNN.out, Gp.out, NE_a_p.out, NE_a_b.out, NE_a_c.out, NE_p_b.out, NE_p_c.out, NE_b_c.out⟩, BV31⟩
    ·skip
     go_wp2_with fail
     obtain ⟨V32, hV⟩ : ∃ x, V28.alloc (.cells #[.slice none 0 0] 53) = x := ⟨_, rfl⟩
     have hb : Below V28.heap.size V28 V32 := by rw [← hV]; exact (Below.refl _ _).alloc (Nat.le_refl _) _
     have Xp := hid (show Blk V32 V28.heap.size (#[.slice none 0 0]) 53 by rw [← hV]; exact Blk.new _ _ _)
     have BV32 := hid (bnext BV28.out hb)
     have Gp := hid (show W.heap.size ≤ V28.heap.size from BV28.out.size)
     have NE_p_b := hid (show V28.heap.size ≠ V0.heap.size from Nat.ne_of_gt Xb.out.lt)
     have NE_b_p := hid (show V0.heap.size ≠ V28.heap.size from Nat.ne_of_lt Xb.out.lt)
     have NE_p_a := hid (show V28.heap.size ≠ V27.heap.size from Nat.ne_of_gt Xa.out.lt)
     have NE_a_p := hid (show V27.heap.size ≠ V28.heap.size from Nat.ne_of_lt Xa.out.lt)
     have Xb := hid (Xb.out.call hb)
     have Xa := hid (Xa.out.call hb)
     rw [hV]
     clear hb hV
     refine ⟨trivial, ?_⟩
     refine held_more (is := [10]) (g := 3) (by kernel_rfl) rfl trivial (by kernel_rfl) ?_
     iterate 1
      refine ⟨_, rfl, ?_⟩
      apply Exists.intro
      refine ⟨.inl ⟨by rfl, ?_⟩, ?_⟩
      ·(intro W' hW'; clear hW'; go_simp; try (with_reducible rfl))
      (dsimp only [Act.put]; try simp only [List.setIfInBounds_toArray, List.set_cons_zero, List.set_cons_succ])
     refine held_two (i := 8) (j := 11) (by kernel_rfl) (by rfl) (by rfl) (by rfl) (by rfl) ?_ ?_
     ·skip
      go_wp2_with fail
      obtain ⟨V33, hV⟩ : ∃ x, V32.alloc (.cells (madeCells #[.int .i64 0] N) 3) = x := ⟨_, rfl⟩
      have hb : Below V32.heap.size V32 V33 := by rw [← hV]; exact (Below.refl _ _).alloc (Nat.le_refl _) _
      have Xc := hid (show Blk V33 V32.heap.size (madeCells #[.int .i64 0] N) 3 by rw [← hV]; exact Blk.new _ _ _)
      have BV33 := hid (bnext BV32.out hb)
      have Gc := hid (show W.heap.size ≤ V32.heap.size from BV32.out.size)
      have NE_c_b := hid (show V32.heap.size ≠ V0.heap.size from Nat.ne_of_gt Xb.out.lt)
      have NE_b_c := hid (show V0.heap.size ≠ V32.heap.size from Nat.ne_of_lt Xb.out.lt)
      have NE_c_a := hid (show V32.heap.size ≠ V27.heap.size from Nat.ne_of_gt Xa.out.lt)
      have NE_a_c := hid (show V27.heap.size ≠ V32.heap.size from Nat.ne_of_lt Xa.out.lt)
      have NE_c_p := hid (show V32.heap.size ≠ V28.heap.size from Nat.ne_of_gt Xp.out.lt)
      have NE_p_c := hid (show V28.heap.size ≠ V32.heap.size from Nat.ne_of_lt Xp.out.lt)
      have Xb := hid (Xb.out.call hb)
      have Xa := hid (Xa.out.call hb)
      have Xp := hid (Xp.out.call hb)
      rw [hV]
      clear hb hV
      refine ⟨trivial, ?_⟩
      refine held_one (i := 11) (by kernel_rfl) (by rfl) (by rfl) ?_
      have r0 := Xp.out.cell 0
      have f0 := Xp.out.free 0
      simp at r0
      go_wp2_with fail
      have Xp := hid (Xp.out.set 0 (.slice (some ⟨V0.heap.size, 0, none⟩) N N))
      simp at Xp
      have BV34 := hid (BV33.out.setCell (p := ⟨V28.heap.size, 0, none⟩) Gp.out (.slice (some ⟨V0.heap.size, 0, none⟩) N N))
      have Xb := hid (show Blk _ (V0.heap.size) _ _ from (heap_set1 V33 (V28.heap.size) 0 (.slice (some ⟨V0.heap.size, 0, none⟩) N N) (g := V0.heap.size) NE_b_p.out).trans Xb.out)
      have Xa := hid (show Blk _ (V27.heap.size) _ _ from (heap_set1 V33 (V28.heap.size) 0 (.slice (some ⟨V0.heap.size, 0, none⟩) N N) (g := V27.heap.size) NE_a_p.out).trans Xa.out)
      have Xc := hid (show Blk _ (V32.heap.size) _ _ from (heap_set1 V33 (V28.heap.size) 0 (.slice (some ⟨V0.heap.size, 0, none⟩) N N) (g := V32.heap.size) NE_c_p.out).trans Xc.out)
      obtain ⟨V34, hV⟩ : ∃ x, V33.setCell ⟨V28.heap.size, 0, none⟩ (.slice (some ⟨V0.heap.size, 0, none⟩) N N) = x := ⟨_, rfl⟩
      rw [hV] at BV34 Xb Xa Xp Xc ⊢
      clear hV r0 f0
      refine ⟨trivial, ?_⟩
      refine held_more (is := [12]) (g := 0) (by kernel_rfl) rfl trivial (by kernel_rfl) ?_
      iterate 1
       refine ⟨_, rfl, ?_⟩
       apply Exists.intro
       refine ⟨.inl ⟨by rfl, ?_⟩, ?_⟩
       ·(intro W' hW'; clear hW'; go_simp; try (with_reducible rfl))
       (dsimp only [Act.put]; try simp only [List.setIfInBounds_toArray, List.set_cons_zero, List.set_cons_succ])
      refine wpAnyH_done (by kernel_rfl) ?_ _
      simp only [Only]
      go_wp2_with fail
      go_meet
      exact ⟨_, _, _, _, rfl, rfl, rfl, ⟨zr_made Xa.out Ga.out HNN.out, Xp.out, PRow.new12 Xb.out Gb.out HNN.out, zr_madeN Xc.out Gc.out HNN.out, Gp.out, NE_a_p.out, NE_a_b.out, NE_a_c.out, NE_p_b.out, NE_p_c.out, NE_b_c.out⟩, BV34⟩
     ·skip
      have r0 := Xp.out.cell 0
      have f0 := Xp.out.free 0
      simp at r0
      go_wp2_with fail
      have Xp := hid (Xp.out.set 0 (.slice (some ⟨V0.heap.size, 0, none⟩) N N))
      simp at Xp
      have BV35 := hid (BV32.out.setCell (p := ⟨V28.heap.size, 0, none⟩) Gp.out (.slice (some ⟨V0.heap.size, 0, none⟩) N N))
      have Xb := hid (show Blk _ (V0.heap.size) _ _ from (heap_set1 V32 (V28.heap.size) 0 (.slice (some ⟨V0.heap.size, 0, none⟩) N N) (g := V0.heap.size) NE_b_p.out).trans Xb.out)
      have Xa := hid (show Blk _ (V27.heap.size) _ _ from (heap_set1 V32 (V28.heap.size) 0 (.slice (some ⟨V0.heap.size, 0, none⟩) N N) (g := V27.heap.size) NE_a_p.out).trans Xa.out)
      obtain ⟨V35, hV⟩ : ∃ x, V32.setCell ⟨V28.heap.size, 0, none⟩ (.slice (some ⟨V0.heap.size, 0, none⟩) N N) = x := ⟨_, rfl⟩
      rw [hV] at BV35 Xb Xa Xp ⊢
      clear hV r0 f0
      refine ⟨trivial, ?_⟩
      refine held_one (i := 8) (by kernel_rfl) (by rfl) (by rfl) ?_
      go_wp2_with fail
      obtain ⟨V36, hV⟩ : ∃ x, V35.alloc (.cells (madeCells #[.int .i64 0] N) 3) = x := ⟨_, rfl⟩
      have hb : Below V35.heap.size V35 V36 := by rw [← hV]; exact (Below.refl _ _).alloc (Nat.le_refl _) _
      have Xc := hid (show Blk V36 V35.heap.size (madeCells #[.int .i64 0] N) 3 by rw [← hV]; exact Blk.new _ _ _)
      have BV36 := hid (bnext BV35.out hb)
      have Gc := hid (show W.heap.size ≤ V35.heap.size from BV35.out.size)
      have NE_c_b := hid (show V35.heap.size ≠ V0.heap.size from Nat.ne_of_gt Xb.out.lt)
      have NE_b_c := hid (show V0.heap.size ≠ V35.heap.size from Nat.ne_of_lt Xb.out.lt)
      have NE_c_a := hid (show V35.heap.size ≠ V27.heap.size from Nat.ne_of_gt Xa.out.lt)
      have NE_a_c := hid (show V27.heap.size ≠ V35.heap.size from Nat.ne_of_lt Xa.out.lt)
      have NE_c_p := hid (show V35.heap.size ≠ V28.heap.size from Nat.ne_of_gt Xp.out.lt)
      have NE_p_c := hid (show V28.heap.size ≠ V35.heap.size from Nat.ne_of_lt Xp.out.lt)
      have Xb := hid (Xb.out.call hb)
      have Xa := hid (Xa.out.call hb)
      have Xp := hid (Xp.out.call hb)
      rw [hV]
      clear hb hV
      refine ⟨trivial, ?_⟩
      refine held_more (is := [12]) (g := 0) (by kernel_rfl) rfl trivial (by kernel_rfl) ?_
      iterate 1
       refine ⟨_, rfl, ?_⟩
       apply Exists.intro
       refine ⟨.inl ⟨by rfl, ?_⟩, ?_⟩
       ·(intro W' hW'; clear hW'; go_simp; try (with_reducible rfl))
       (dsimp only [Act.put]; try simp only [List.setIfInBounds_toArray, List.set_cons_zero, List.set_cons_succ])
      refine wpAnyH_done (by kernel_rfl) ?_ _
      simp only [Only]
      go_wp2_with fail
      go_meet
      exact ⟨_, _, _, _, rfl, rfl, rfl, ⟨zr_made Xa.out Ga.out HNN.out, Xp.out, PRow.new12 Xb.out Gb.out HNN.out, zr_madeN Xc.out Gc.out HNN.out, Gp.out, NE_a_p.out, NE_a_b.out, NE_a_c.out, NE_p_b.out, NE_p_c.out, NE_b_c.out⟩, BV36⟩
   ·skip
    go_wp2_with fail
    obtain ⟨V37, hV⟩ : ∃ x, V27.alloc (.cells (madeCells #[.int .i64 0] N) 3) = x := ⟨_, rfl⟩
    have hb : Below V27.heap.size V27 V37 := by rw [← hV]; exact (Below.refl _ _).alloc (Nat.le_refl _) _
    have Xc := hid (show Blk V37 V27.heap.size (madeCells #[.int .i64 0] N) 3 by rw [← hV]; exact Blk.new _ _ _)
    have BV37 := hid (bnext BV27.out hb)
    have Gc := hid (show W.heap.size ≤ V27.heap.size from BV27.out.size)
    have NE_c_b := hid (show V27.heap.size ≠ V0.heap.size from Nat.ne_of_gt Xb.out.lt)
    have NE_b_c := hid (show V0.heap.size ≠ V27.heap.size from Nat.ne_of_lt Xb.out.lt)
    have Xb := hid (Xb.out.call hb)
    rw [hV]
    clear hb hV
    refine ⟨trivial, ?_⟩
    refine held_two (i := 2) (j := 9) (by kernel_rfl) (by rfl) (by rfl) (by rfl) (by rfl) ?_ ?_
    ·skip
     go_wp2_with fail
     obtain ⟨V38, hV⟩ : ∃ x, V37.alloc (.cells (madeCells #[.int .i64 0] N) 3) = x := ⟨_, rfl⟩
     have hb : Below V37.heap.size V37 V38 := by rw [← hV]; exact (Below.refl _ _).alloc (Nat.le_refl _) _
     have Xa := hid (show Blk V38 V37.heap.size (madeCells #[.int .i64 0] N) 3 by rw [← hV]; exact Blk.new _ _ _)
     have BV38 := hid (bnext BV37.out hb)
     have Ga := hid (show W.heap.size ≤ V37.heap.size from BV37.out.size)
     have NE_a_b := hid (show V37.heap.size ≠ V0.heap.size from Nat.ne_of_gt Xb.out.lt)
     have NE_b_a := hid (show V0.heap.size ≠ V37.heap.size from Nat.ne_of_lt Xb.out.lt)
     have NE_a_c := hid (show V37.heap.size ≠ V27.heap.size from Nat.ne_of_gt Xc.out.lt)
     have NE_c_a := hid (show V27.heap.size ≠ V37.heap.size from Nat.ne_of_lt Xc.out.lt)
     have Xb := hid (Xb.out.call hb)
     have Xc := hid (Xc.out.call hb)
     rw [hV]
     clear hb hV
     refine ⟨trivial, ?_⟩
     refine held_one (i := 9) (by kernel_rfl) (by rfl) (by rfl) ?_
     go_wp2_with fail
     obtain ⟨V39, hV⟩ : ∃ x, V38.alloc (.cells #[.slice none 0 0] 53) = x := ⟨_, rfl⟩
     have hb : Below V38.heap.size V38 V39 := by rw [← hV]; exact (Below.refl _ _).alloc (Nat.le_refl _) _
     have Xp := hid (show Blk V39 V38.heap.size (#[.slice none 0 0]) 53 by rw [← hV]; exact Blk.new _ _ _)
     have BV39 := hid (bnext BV38.out hb)
     have Gp := hid (show W.heap.size ≤ V38.heap.size from BV38.out.size)
     have NE_p_b := hid (show V38.heap.size ≠ V0.heap.size from Nat.ne_of_gt Xb.out.lt)
     have NE_b_p := hid (show V0.heap.size ≠ V38.heap.size from Nat.ne_of_lt Xb.out.lt)
     have NE_p_c := hid (show V38.heap.size ≠ V27.heap.size from Nat.ne_of_gt Xc.out.lt)
     have NE_c_p := hid (show V27.heap.size ≠ V38.heap.size from Nat.ne_of_lt Xc.out.lt)
     have NE_p_a := hid (show V38.heap.size ≠ V37.heap.size from Nat.ne_of_gt Xa.out.lt)
     have NE_a_p := hid (show V37.heap.size ≠ V38.heap.size from Nat.ne_of_lt Xa.out.lt)
     have Xb := hid (Xb.out.call hb)
     have Xc := hid (Xc.out.call hb)
     have Xa := hid (Xa.out.call hb)
     rw [hV]
     clear hb hV
     refine ⟨trivial, ?_⟩
     refine held_more (is := [10]) (g := 2) (by kernel_rfl) rfl trivial (by kernel_rfl) ?_
     iterate 1
      refine ⟨_, rfl, ?_⟩
      apply Exists.intro
      refine ⟨.inl ⟨by rfl, ?_⟩, ?_⟩
      ·(intro W' hW'; clear hW'; go_simp; try (with_reducible rfl))
      (dsimp only [Act.put]; try simp only [List.setIfInBounds_toArray, List.set_cons_zero, List.set_cons_succ])
     refine held_one (i := 11) (by kernel_rfl) (by rfl) (by rfl) ?_
     have r0 := Xp.out.cell 0
     have f0 := Xp.out.free 0
     simp at r0
     go_wp2_with fail
     have Xp := hid (Xp.out.set 0 (.slice (some ⟨V0.heap.size, 0, none⟩) N N))
     simp at Xp
     have BV40 := hid (BV39.out.setCell (p := ⟨V38.heap.size, 0, none⟩) Gp.out (.slice (some ⟨V0.heap.size, 0, none⟩) N N))
     have Xb := hid (show Blk _ (V0.heap.size) _ _ from (heap_set1 V39 (V38.heap.size) 0 (.slice (some ⟨V0.heap.size, 0, none⟩) N N) (g := V0.heap.size) NE_b_p.out).trans Xb.out)
     have Xc := hid (show Blk _ (V27.heap.size) _ _ from (heap_set1 V39 (V38.heap.size) 0 (.slice (some ⟨V0.heap.size, 0, none⟩) N N) (g := V27.heap.size) NE_c_p.out).trans Xc.out)
     have Xa := hid (show Blk _ (V37.heap.size) _ _ from (heap_set1 V39 (V38.heap.size) 0 (.slice (some ⟨V0.heap.size, 0, none⟩) N N) (g := V37.heap.size) NE_a_p.out).trans Xa.out)
     obtain ⟨V40, hV⟩ : ∃ x, V39.setCell ⟨V38.heap.size, 0, none⟩ (.slice (some ⟨V0.heap.size, 0, none⟩) N N) = x := ⟨_, rfl⟩
     rw [hV] at BV40 Xb Xc Xa Xp ⊢
     clear hV r0 f0
     refine ⟨trivial, ?_⟩
     refine held_more (is := [12]) (g := 0) (by kernel_rfl) rfl trivial (by kernel_rfl) ?_
     iterate 1
      refine ⟨_, rfl, ?_⟩
      apply Exists.intro
      refine ⟨.inl ⟨by rfl, ?_⟩, ?_⟩
      ·(intro W' hW'; clear hW'; go_simp; try (with_reducible rfl))
      (dsimp only [Act.put]; try simp only [List.setIfInBounds_toArray, List.set_cons_zero, List.set_cons_succ])
     refine wpAnyH_done (by kernel_rfl) ?_ _
     simp only [Only]
     go_wp2_with fail
     go_meet
     exact ⟨_, _, _, _, rfl, rfl, rfl, ⟨zr_made Xa.out Ga.out HNN.out, Xp.out, PRow.new12 Xb.out Gb.out HNN.out, zr_madeN Xc.out Gc.out HNN.out, Gp.out, NE_a_p.out, NE_a_b.out, NE_a_c.out, NE_p_b.out, NE_p_c.out, NE_b_c.out⟩, BV40⟩
    ·skip
     go_wp2_with fail
     obtain ⟨V41, hV⟩ : ∃ x, V37.alloc (.cells #[.slice none 0 0] 53) = x := ⟨_, rfl⟩
     have hb : Below V37.heap.size V37 V41 := by rw [← hV]; exact (Below.refl _ _).alloc (Nat.le_refl _) _
     have Xp := hid (show Blk V41 V37.heap.size (#[.slice none 0 0]) 53 by rw [← hV]; exact Blk.new _ _ _)
     have BV41 := hid (bnext BV37.out hb)
     have Gp := hid (show W.heap.size ≤ V37.heap.size from BV37.out.size)
     have NE_p_b := hid (show V37.heap.size ≠ V0.heap.size from Nat.ne_of_gt Xb.out.lt)
     have NE_b_p := hid (show V0.heap.size ≠ V37.heap.size from Nat.ne_of_lt Xb.out.lt)
     have NE_p_c := hid (show V37.heap.size ≠ V27.heap.size from Nat.ne_of_gt Xc.out.lt)
     have NE_c_p := hid (show V27.heap.size ≠ V37.heap.size from Nat.ne_of_lt Xc.out.lt)
     have Xb := hid (Xb.out.call hb)
     have Xc := hid (Xc.out.call hb)
     rw [hV]
     clear hb hV
     refine ⟨trivial, ?_⟩
     refine held_one (i := 2) (by kernel_rfl) (by rfl) (by rfl) ?_
     go_wp2_with fail
     obtain ⟨V42, hV⟩ : ∃ x, V41.alloc (.cells (madeCells #[.int .i64 0] N) 3) = x := ⟨_, rfl⟩
     have hb : Below V41.heap.size V41 V42 := by rw [← hV]; exact (Below.refl _ _).alloc (Nat.le_refl _) _
     have Xa := hid (show Blk V42 V41.heap.size (madeCells #[.int .i64 0] N) 3 by rw [← hV]; exact Blk.new _ _ _)
     have BV42 := hid (bnext BV41.out hb)
     have Ga := hid (show W.heap.size ≤ V41.heap.size from BV41.out.size)
     have NE_a_b := hid (show V41.heap.size ≠ V0.heap.size from Nat.ne_of_gt Xb.out.lt)
     have NE_b_a := hid (show V0.heap.size ≠ V41.heap.size from Nat.ne_of_lt Xb.out.lt)
     have NE_a_c := hid (show V41.heap.size ≠ V27.heap.size from Nat.ne_of_gt Xc.out.lt)
     have NE_c_a := hid (show V27.heap.size ≠ V41.heap.size from Nat.ne_of_lt Xc.out.lt)
     have NE_a_p := hid (show V41.heap.size ≠ V37.heap.size from Nat.ne_of_gt Xp.out.lt)
     have NE_p_a := hid (show V37.heap.size ≠ V41.heap.size from Nat.ne_of_lt Xp.out.lt)
     have Xb := hid (Xb.out.call hb)
     have Xc := hid (Xc.out.call hb)
     have Xp := hid (Xp.out.call hb)
     rw [hV]
     clear hb hV
     refine ⟨trivial, ?_⟩
     refine held_more (is := [10]) (g := 2) (by kernel_rfl) rfl trivial (by kernel_rfl) ?_
     iterate 1
      refine ⟨_, rfl, ?_⟩
      apply Exists.intro
      refine ⟨.inl ⟨by rfl, ?_⟩, ?_⟩
      ·(intro W' hW'; clear hW'; go_simp; try (with_reducible rfl))
      (dsimp only [Act.put]; try simp only [List.setIfInBounds_toArray, List.set_cons_zero, List.set_cons_succ])
     refine held_one (i := 11) (by kernel_rfl) (by rfl) (by rfl) ?_
     have r0 := Xp.out.cell 0
     have f0 := Xp.out.free 0
     simp at r0
     go_wp2_with fail
     have Xp := hid (Xp.out.set 0 (.slice (some ⟨V0.heap.size, 0, none⟩) N N))
     simp at Xp
     have BV43 := hid (BV42.out.setCell (p := ⟨V37.heap.size, 0, none⟩) Gp.out (.slice (some ⟨V0.heap.size, 0, none⟩) N N))
     have Xb := hid (show Blk _ (V0.heap.size) _ _ from (heap_set1 V42 (V37.heap.size) 0 (.slice (some ⟨V0.heap.size, 0, none⟩) N N) (g := V0.heap.size) NE_b_p.out).trans Xb.out)
     have Xc := hid (show Blk _ (V27.heap.size) _ _ from (heap_set1 V42 (V37.heap.size) 0 (.slice (some ⟨V0.heap.size, 0, none⟩) N N) (g := V27.heap.size) NE_c_p.out).trans Xc.out)
     have Xa := hid (show Blk _ (V41.heap.size) _ _ from (heap_set1 V42 (V37.heap.size) 0 (.slice (some ⟨V0.heap.size, 0, none⟩) N N) (g := V41.heap.size) NE_a_p.out).trans Xa.out)
     obtain ⟨V43, hV⟩ : ∃ x, V42.setCell ⟨V37.heap.size, 0, none⟩ (.slice (some ⟨V0.heap.size, 0, none⟩) N N) = x := ⟨_, rfl⟩
     rw [hV] at BV43 Xb Xc Xp Xa ⊢
     clear hV r0 f0
     refine ⟨trivial, ?_⟩
     refine held_more (is := [12]) (g := 0) (by kernel_rfl) rfl trivial (by kernel_rfl) ?_
     iterate 1
      refine ⟨_, rfl, ?_⟩
      apply Exists.intro
      refine ⟨.inl ⟨by rfl, ?_⟩, ?_⟩
      ·(intro W' hW'; clear hW'; go_simp; try (with_reducible rfl))
      (dsimp only [Act.put]; try simp only [List.setIfInBounds_toArray, List.set_cons_zero, List.set_cons_succ])
     refine wpAnyH_done (by kernel_rfl) ?_ _
     simp only [Only]
     go_wp2_with fail
     go_meet
     exact ⟨_, _, _, _, rfl, rfl, rfl, ⟨zr_made Xa.out Ga.out HNN.out, Xp.out, PRow.new12 Xb.out Gb.out HNN.out, zr_madeN Xc.out Gc.out HNN.out, Gp.out, NE_a_p.out, NE_a_b.out, NE_a_c.out, NE_p_b.out, NE_p_c.out, NE_b_c.out⟩, BV43⟩
   ·skip
    go_wp2_with fail
    obtain ⟨V44, hV⟩ : ∃ x, V27.alloc (.cells #[.slice none 0 0] 53) = x := ⟨_, rfl⟩
    have hb : Below V27.heap.size V27 V44 := by rw [← hV]; exact (Below.refl _ _).alloc (Nat.le_refl _) _
    have Xp := hid (show Blk V44 V27.heap.size (#[.slice none 0 0]) 53 by rw [← hV]; exact Blk.new _ _ _)
    have BV44 := hid (bnext BV27.out hb)
    have Gp := hid (show W.heap.size ≤ V27.heap.size from BV27.out.size)
    have NE_p_b := hid (show V27.heap.size ≠ V0.heap.size from Nat.ne_of_gt Xb.out.lt)
    have NE_b_p := hid (show V0.heap.size ≠ V27.heap.size from Nat.ne_of_lt Xb.out.lt)
    have Xb := hid (Xb.out.call hb)
    rw [hV]
    clear hb hV
    refine ⟨trivial, ?_⟩
    refine held_two (i := 2) (j := 8) (by kernel_rfl) (by rfl) (by rfl) (by rfl) (by rfl) ?_ ?_
    ·skip
     go_wp2_with fail
     obtain ⟨V45, hV⟩ : ∃ x, V44.alloc (.cells (madeCells #[.int .i64 0] N) 3) = x := ⟨_, rfl⟩
     have hb : Below V44.heap.size V44 V45 := by rw [← hV]; exact (Below.refl _ _).alloc (Nat.le_refl _) _
     have Xa := hid (show Blk V45 V44.heap.size (madeCells #[.int .i64 0] N) 3 by rw [← hV]; exact Blk.new _ _ _)
     have BV45 := hid (bnext BV44.out hb)
     have Ga := hid (show W.heap.size ≤ V44.heap.size from BV44.out.size)
     have NE_a_b := hid (show V44.heap.size ≠ V0.heap.size from Nat.ne_of_gt Xb.out.lt)
     have NE_b_a := hid (show V0.heap.size ≠ V44.heap.size from Nat.ne_of_lt Xb.out.lt)
     have NE_a_p := hid (show V44.heap.size ≠ V27.heap.size from Nat.ne_of_gt Xp.out.lt)
     have NE_p_a := hid (show V27.heap.size ≠ V44.heap.size from Nat.ne_of_lt Xp.out.lt)
     have Xb := hid (Xb.out.call hb)
     have Xp := hid (Xp.out.call hb)
     rw [hV]
     clear hb hV
     refine ⟨trivial, ?_⟩
     refine held_more (is := [10]) (g := 3) (by kernel_rfl) rfl trivial (by kernel_rfl) ?_
     iterate 1
      refine ⟨_, rfl, ?_⟩
      apply Exists.intro
      refine ⟨.inl ⟨by rfl, ?_⟩, ?_⟩
      ·(intro W' hW'; clear hW'; go_simp; try (with_reducible rfl))
      (dsimp only [Act.put]; try simp only [List.setIfInBounds_toArray, List.set_cons_zero, List.set_cons_succ])
     refine held_two (i := 8) (j := 11) (by kernel_rfl) (by rfl) (by rfl) (by rfl) (by rfl) ?_ ?_
     ·skip
      go_wp2_with fail
      obtain ⟨V46, hV⟩ : ∃ x, V45.alloc (.cells (madeCells #[.int .i64 0] N) 3) = x := ⟨_, rfl⟩
      have hb : Below V45.heap.size V45 V46 := by rw [← hV]; exact (Below.refl _ _).alloc (Nat.le_refl _) _
      have Xc := hid (show Blk V46 V45.heap.size (madeCells #[.int .i64 0] N) 3 by rw [← hV]; exact Blk.new _ _ _)
      have BV46 := hid (bnext BV45.out hb)
      have Gc := hid (show W.heap.size ≤ V45.heap.size from BV45.out.size)
      have NE_c_b := hid (show V45.heap.size ≠ V0.heap.size from Nat.ne_of_gt Xb.out.lt)
      have NE_b_c := hid (show V0.heap.size ≠ V45.heap.size from Nat.ne_of_lt Xb.out.lt)
      have NE_c_p := hid (show V45.heap.size ≠ V27.heap.size from Nat.ne_of_gt Xp.out.lt)
      have NE_p_c := hid (show V27.heap.size ≠ V45.heap.size from Nat.ne_of_lt Xp.out.lt)
      have NE_c_a := hid (show V45.heap.size ≠ V44.heap.size from Nat.ne_of_gt Xa.out.lt)
      have NE_a_c := hid (show V44.heap.size ≠ V45.heap.size from Nat.ne_of_lt Xa.out.lt)
      have Xb := hid (Xb.out.call hb)
      have Xp := hid (Xp.out.call hb)
      have Xa := hid (Xa.out.call hb)
      rw [hV]
      clear hb hV
      refine ⟨trivial, ?_⟩
      refine held_one (i := 11) (by kernel_rfl) (by rfl) (by rfl) ?_
      have r0 := Xp.out.cell 0
      have f0 := Xp.out.free 0
      simp at r0
      go_wp2_with fail
      have Xp := hid (Xp.out.set 0 (.slice (some ⟨V0.heap.size, 0, none⟩) N N))
      simp at Xp
      have BV47 := hid (BV46.out.setCell (p := ⟨V27.heap.size, 0, none⟩) Gp.out (.slice (some ⟨V0.heap.size, 0, none⟩) N N))
      have Xb := hid (show Blk _ (V0.heap.size) _ _ from (heap_set1 V46 (V27.heap.size) 0 (.slice (some ⟨V0.heap.size, 0, none⟩) N N) (g := V0.heap.size) NE_b_p.out).trans Xb.out)
      have Xa := hid (show Blk _ (V44.heap.size) _ _ from (heap_set1 V46 (V27.heap.size) 0 (.slice (some ⟨V0.heap.size, 0, none⟩) N N) (g := V44.heap.size) NE_a_p.out).trans Xa.out)
      have Xc := hid (show Blk _ (V45.heap.size) _ _ from (heap_set1 V46 (V27.heap.size) 0 (.slice (some ⟨V0.heap.size, 0, none⟩) N N) (g := V45.heap.size) NE_c_p.out).trans Xc.out)
      obtain ⟨V47, hV⟩ : ∃ x, V46.setCell ⟨V27.heap.size, 0, none⟩ (.slice (some ⟨V0.heap.size, 0, none⟩) N N) = x := ⟨_, rfl⟩
      rw [hV] at BV47 Xb Xp Xa Xc ⊢
      clear hV r0 f0
      refine ⟨trivial, ?_⟩
      refine held_more (is := [12]) (g := 0) (by kernel_rfl) rfl trivial (by kernel_rfl) ?_
      iterate 1
       refine ⟨_, rfl, ?_⟩
       apply Exists.intro
       refine ⟨.inl ⟨by rfl, ?_⟩, ?_⟩
       ·(intro W' hW'; clear hW'; go_simp; try (with_reducible rfl))
       (dsimp only [Act.put]; try simp only [List.setIfInBounds_toArray, List.set_cons_zero, List.set_cons_succ])
      refine wpAnyH_done (by kernel_rfl) ?_ _
      simp only [Only]
      go_wp2_with fail
      go_meet
      exact ⟨_, _, _, _, rfl, rfl, rfl, ⟨zr_made Xa.out Ga.out HNN.out, Xp.out, PRow.new12 Xb.out Gb.out HNN.out, zr_madeN Xc.out Gc.out HNN.out, Gp.out, NE_a_p.out, NE_a_b.out, NE_a_c.out, NE_p_b.out, NE_p_c.out, NE_b_c.out⟩, BV47⟩
     ·skip
      have r0 := Xp.out.cell 0
      have f0 := Xp.out.free 0
      simp at r0
      go_wp2_with fail
      have Xp := hid (Xp.out.set 0 (.slice (some ⟨V0.heap.size, 0, none⟩) N N))
      simp at Xp
      have BV48 := hid (BV45.out.setCell (p := ⟨V27.heap.size, 0, none⟩) Gp.out (.slice (some ⟨V0.heap.size, 0, none⟩) N N))
      have Xb := hid (show Blk _ (V0.heap.size) _ _ from (heap_set1 V45 (V27.heap.size) 0 (.slice (some ⟨V0.heap.size, 0, none⟩) N N) (g := V0.heap.size) NE_b_p.out).trans Xb.out)
      have Xa := hid (show Blk _ (V44.heap.size) _ _ from (heap_set1 V45 (V27.heap.size) 0 (.slice (some ⟨V0.heap.size, 0, none⟩) N N) (g := V44.heap.size) NE_a_p.out).trans Xa.out)
      obtain ⟨V48, hV⟩ : ∃ x, V45.setCell ⟨V27.heap.size, 0, none⟩ (.slice (some ⟨V0.heap.size, 0, none⟩) N N) = x := ⟨_, rfl⟩
      rw [hV] at BV48 Xb Xp Xa ⊢
      clear hV r0 f0
      refine ⟨trivial, ?_⟩
      refine held_one (i := 8) (by kernel_rfl) (by rfl) (by rfl) ?_
      go_wp2_with fail
      obtain ⟨V49, hV⟩ : ∃ x, V48.alloc (.cells (madeCells #[.int .i64 0] N) 3) = x := ⟨_, rfl⟩
      have hb : Below V48.heap.size V48 V49 := by rw [← hV]; exact (Below.refl _ _).alloc (Nat.le_refl _) _
      have Xc := hid (show Blk V49 V48.heap.size (madeCells #[.int .i64 0] N) 3 by rw [← hV]; exact Blk.new _ _ _)
      have BV49 := hid (bnext BV48.out hb)
      have Gc := hid (show W.heap.size ≤ V48.heap.size from BV48.out.size)
      have NE_c_b := hid (show V48.heap.size ≠ V0.heap.size from Nat.ne_of_gt Xb.out.lt)
      have NE_b_c := hid (show V0.heap.size ≠ V48.heap.size from Nat.ne_of_lt Xb.out.lt)
      have NE_c_p := hid (show V48.heap.size ≠ V27.heap.size from Nat.ne_of_gt Xp.out.lt)
      have NE_p_c := hid (show V27.heap.size ≠ V48.heap.size from Nat.ne_of_lt Xp.out.lt)
      have NE_c_a := hid (show V48.heap.size ≠ V44.heap.size from Nat.ne_of_gt Xa.out.lt)
      have NE_a_c := hid (show V44.heap.size ≠ V48.heap.size from Nat.ne_of_lt Xa.out.lt)
      have Xb := hid (Xb.out.call hb)
      have Xp := hid (Xp.out.call hb)
      have Xa := hid (Xa.out.call hb)
      rw [hV]
      clear hb hV
      refine ⟨trivial, ?_⟩
      refine held_more (is := [12]) (g := 0) (by kernel_rfl) rfl trivial (by kernel_rfl) ?_
      iterate 1
       refine ⟨_, rfl, ?_⟩
       apply Exists.intro
       refine ⟨.inl ⟨by rfl, ?_⟩, ?_⟩
       ·(intro W' hW'; clear hW'; go_simp; try (with_reducible rfl))
       (dsimp only [Act.put]; try simp only [List.setIfInBounds_toArray, List.set_cons_zero, List.set_cons_succ])
      refine wpAnyH_done (by kernel_rfl) ?_ _
      simp only [Only]
      go_wp2_with fail
      go_meet
      exact ⟨_, _, _, _, rfl, rfl, rfl, ⟨zr_made Xa.out Ga.out HNN.out, Xp.out, PRow.new12 Xb.out Gb.out HNN.out, zr_madeN Xc.out Gc.out HNN.out, Gp.out, NE_a_p.out, NE_a_b.out, NE_a_c.out, NE_p_b.out, NE_p_c.out, NE_b_c.out⟩, BV49⟩
    ·skip
     go_wp2_with fail
     obtain ⟨V50, hV⟩ : ∃ x, V44.alloc (.cells (madeCells #[.int .i64 0] N) 3) = x := ⟨_, rfl⟩
     have hb : Below V44.heap.size V44 V50 := by rw [← hV]; exact (Below.refl _ _).alloc (Nat.le_refl _) _
     have Xc := hid (show Blk V50 V44.heap.size (madeCells #[.int .i64 0] N) 3 by rw [← hV]; exact Blk.new _ _ _)
     have BV50 := hid (bnext BV44.out hb)
     have Gc := hid (show W.heap.size ≤ V44.heap.size from BV44.out.size)
     have NE_c_b := hid (show V44.heap.size ≠ V0.heap.size from Nat.ne_of_gt Xb.out.lt)
     have NE_b_c := hid (show V0.heap.size ≠ V44.heap.size from Nat.ne_of_lt Xb.out.lt)
     have NE_c_p := hid (show V44.heap.size ≠ V27.heap.size from Nat.ne_of_gt Xp.out.lt)
     have NE_p_c := hid (show V27.heap.size ≠ V44.heap.size from Nat.ne_of_lt Xp.out.lt)
     have Xb := hid (Xb.out.call hb)
     have Xp := hid (Xp.out.call hb)
     rw [hV]
     clear hb hV
     refine ⟨trivial, ?_⟩
     refine held_one (i := 2) (by kernel_rfl) (by rfl) (by rfl) ?_
     go_wp2_with fail
     obtain ⟨V51, hV⟩ : ∃ x, V50.alloc (.cells (madeCells #[.int .i64 0] N) 3) = x := ⟨_, rfl⟩
     have hb : Below V50.heap.size V50 V51 := by rw [← hV]; exact (Below.refl _ _).alloc (Nat.le_refl _) _
     have Xa := hid (show Blk V51 V50.heap.size (madeCells #[.int .i64 0] N) 3 by rw [← hV]; exact Blk.new _ _ _)
     have BV51 := hid (bnext BV50.out hb)
     have Ga := hid (show W.heap.size ≤ V50.heap.size from BV50.out.size)
     have NE_a_b := hid (show V50.heap.size ≠ V0.heap.size from Nat.ne_of_gt Xb.out.lt)
     have NE_b_a := hid (show V0.heap.size ≠ V50.heap.size from Nat.ne_of_lt Xb.out.lt)
     have NE_a_p := hid (show V50.heap.size ≠ V27.heap.size from Nat.ne_of_gt Xp.out.lt)
     have NE_p_a := hid (show V27.heap.size ≠ V50.heap.size from Nat.ne_of_lt Xp.out.lt)
     have NE_a_c := hid (show V50.heap.size ≠ V44.heap.size from Nat.ne_of_gt Xc.out.lt)
     have NE_c_a := hid (show V44.heap.size ≠ V50.heap.size from Nat.ne_of_lt Xc.out.lt)
     have Xb := hid (Xb.out.call hb)
     have Xp := hid (Xp.out.call hb)
     have Xc := hid (Xc.out.call hb)
     rw [hV]
     clear hb hV
     refine ⟨trivial, ?_⟩
     refine held_more (is := [10]) (g := 2) (by kernel_rfl) rfl trivial (by kernel_rfl) ?_
     iterate 1
      refine ⟨_, rfl, ?_⟩
      apply Exists.intro
      refine ⟨.inl ⟨by rfl, ?_⟩, ?_⟩
      ·(intro W' hW'; clear hW'; go_simp; try (with_reducible rfl))
      (dsimp only [Act.put]; try simp only [List.setIfInBounds_toArray, List.set_cons_zero, List.set_cons_succ])
     refine held_one (i := 11) (by kernel_rfl) (by rfl) (by rfl) ?_
     have r0 := Xp.out.cell 0
     have f0 := Xp.out.free 0
     simp at r0
     go_wp2_with fail
     have Xp := hid (Xp.out.set 0 (.slice (some ⟨V0.heap.size, 0, none⟩) N N))
     simp at Xp
     have BV52 := hid (BV51.out.setCell (p := ⟨V27.heap.size, 0, none⟩) Gp.out (.slice (some ⟨V0.heap.size, 0, none⟩) N N))
     have Xb := hid (show Blk _ (V0.heap.size) _ _ from (heap_set1 V51 (V27.heap.size) 0 (.slice (some ⟨V0.heap.size, 0, none⟩) N N) (g := V0.heap.size) NE_b_p.out).trans Xb.out)
     have Xc := hid (show Blk _ (V44.heap.size) _ _ from (heap_set1 V51 (V27.heap.size) 0 (.slice (some ⟨V0.heap.size, 0, none⟩) N N) (g := V44.heap.size) NE_c_p.out).trans Xc.out)
     have Xa := hid (show Blk _ (V50.heap.size) _ _ from (heap_set1 V51 (V27.heap.size) 0 (.slice (some ⟨V0.heap.size, 0, none⟩) N N) (g := V50.heap.size) NE_a_p.out).trans Xa.out)
     obtain ⟨V52, hV⟩ : ∃ x, V51.setCell ⟨V27.heap.size, 0, none⟩ (.slice (some ⟨V0.heap.size, 0, none⟩) N N) = x := ⟨_, rfl⟩
     rw [hV] at BV52 Xb Xp Xc Xa ⊢
     clear hV r0 f0
     refine ⟨trivial, ?_⟩
     refine held_more (is := [12]) (g := 0) (by kernel_rfl) rfl trivial (by kernel_rfl) ?_
     iterate 1
      refine ⟨_, rfl, ?_⟩
      apply Exists.intro
      refine ⟨.inl ⟨by rfl, ?_⟩, ?_⟩
      ·(intro W' hW'; clear hW'; go_simp; try (with_reducible rfl))
      (dsimp only [Act.put]; try simp only [List.setIfInBounds_toArray, List.set_cons_zero, List.set_cons_succ])
     refine wpAnyH_done (by kernel_rfl) ?_ _
     simp only [Only]
     go_wp2_with fail
     go_meet
     exact ⟨_, _, _, _, rfl, rfl, rfl, ⟨zr_made Xa.out Ga.out HNN.out, Xp.out, PRow.new12 Xb.out Gb.out HNN.out, zr_madeN Xc.out Gc.out HNN.out, Gp.out, NE_a_p.out, NE_a_b.out, NE_a_c.out, NE_p_b.out, NE_p_c.out, NE_b_c.out⟩, BV52⟩
  ·skip
   go_wp2_with fail
   obtain ⟨V53, hV⟩ : ∃ x, V0.alloc (.cells (madeCells #[.int .i64 0] N) 3) = x := ⟨_, rfl⟩
   have hb : Below V0.heap.size V0 V53 := by rw [← hV]; exact (Below.refl _ _).alloc (Nat.le_refl _) _
   have Xc := hid (show Blk V53 V0.heap.size (madeCells #[.int .i64 0] N) 3 by rw [← hV]; exact Blk.new _ _ _)
   have BV53 := hid (bnext BV0.out hb)
   have Gc := hid (show W.heap.size ≤ V0.heap.size from BV0.out.size)
   rw [hV]
   clear hb hV
   refine ⟨trivial, ?_⟩
   refine held_three (i := 2) (j := 5) (k := 9) (by kernel_rfl) (by rfl) (by rfl) (by rfl) (by rfl) (by rfl) (by rfl) ?_ ?_ ?_
   ·skip
    go_wp2_with fail
    obtain ⟨V54, hV⟩ : ∃ x, V53.alloc (.cells (madeCells #[.int .i64 0] N) 3) = x := ⟨_, rfl⟩
    have hb : Below V53.heap.size V53 V54 := by rw [← hV]; exact (Below.refl _ _).alloc (Nat.le_refl _) _
    have Xa := hid (show Blk V54 V53.heap.size (madeCells #[.int .i64 0] N) 3 by rw [← hV]; exact Blk.new _ _ _)
    have BV54 := hid (bnext BV53.out hb)
    have Ga := hid (show W.heap.size ≤ V53.heap.size from BV53.out.size)
    have NE_a_c := hid (show V53.heap.size ≠ V0.heap.size from Nat.ne_of_gt Xc.out.lt)
    have NE_c_a := hid (show V0.heap.size ≠ V53.heap.size from Nat.ne_of_lt Xc.out.lt)
    have Xc := hid (Xc.out.call hb)
    rw [hV]
    clear hb hV
    refine ⟨trivial, ?_⟩
    refine held_two (i := 5) (j := 9) (by kernel_rfl) (by rfl) (by rfl) (by rfl) (by rfl) ?_ ?_
    ·skip
     go_wp2_with fail
     obtain ⟨V55, hV⟩ : ∃ x, V54.alloc (.cells (rp3 (.bool false) zz zz N).toArray 57) = x := ⟨_, rfl⟩
     have hb : Below V54.heap.size V54 V55 := by rw [← hV]; exact (Below.refl _ _).alloc (Nat.le_refl _) _
     have Xb := hid (show Blk V55 V54.heap.size ((rp3 (.bool false) zz zz N).toArray) 57 by rw [← hV]; exact Blk.new _ _ _)
     have BV55 := hid (bnext BV54.out hb)
     have Gb := hid (show W.heap.size ≤ V54.heap.size from BV54.out.size)
     have NE_b_c := hid (show V54.heap.size ≠ V0.heap.size from Nat.ne_of_gt Xc.out.lt)
     have NE_c_b := hid (show V0.heap.size ≠ V54.heap.size from Nat.ne_of_lt Xc.out.lt)
     have NE_b_a := hid (show V54.heap.size ≠ V53.heap.size from Nat.ne_of_gt Xa.out.lt)
     have NE_a_b := hid (show V53.heap.size ≠ V54.heap.size from Nat.ne_of_lt Xa.out.lt)
     have Xc := hid (Xc.out.call hb)
     have Xa := hid (Xa.out.call hb)
     rw [hV]
     clear hb hV
     refine ⟨trivial, ?_⟩
     refine held_one (i := 9) (by kernel_rfl) (by rfl) (by rfl) ?_
     go_wp2_with fail
     obtain ⟨V56, hV⟩ : ∃ x, V55.alloc (.cells #[.slice none 0 0] 53) = x := ⟨_, rfl⟩
     have hb : Below V55.heap.size V55 V56 := by rw [← hV]; exact (Below.refl _ _).alloc (Nat.le_refl _) _
     have Xp := hid (show Blk V56 V55.heap.size (#[.slice none 0 0]) 53 by rw [← hV]; exact Blk.new _ _ _)
     have BV56 := hid (bnext BV55.out hb)
     have Gp := hid (show W.heap.size ≤ V55.heap.size from BV55.out.size)
     have NE_p_c := hid (show V55.heap.size ≠ V0.heap.size from Nat.ne_of_gt Xc.out.lt)
     have NE_c_p := hid (show V0.heap.size ≠ V55.heap.size from Nat.ne_of_lt Xc.out.lt)
     have NE_p_a := hid (show V55.heap.size ≠ V53.heap.size from Nat.ne_of_gt Xa.out.lt)
     have NE_a_p := hid (show V53.heap.size ≠ V55.heap.size from Nat.ne_of_lt Xa.out.lt)
     have NE_p_b := hid (show V55.heap.size ≠ V54.heap.size from Nat.ne_of_gt Xb.out.lt)
     have NE_b_p := hid (show V54.heap.size ≠ V55.heap.size from Nat.ne_of_lt Xb.out.lt)
     have Xc := hid (Xc.out.call hb)
     have Xa := hid (Xa.out.call hb)
     have Xb := hid (Xb.out.call hb)
     rw [hV]
     clear hb hV
     refine ⟨trivial, ?_⟩
     refine held_more (is := [10]) (g := 2) (by kernel_rfl) rfl trivial (by kernel_rfl) ?_
     iterate 1
      refine ⟨_, rfl, ?_⟩
      apply Exists.intro
      refine ⟨.inl ⟨by rfl, ?_⟩, ?_⟩
      ·(intro W' hW'; clear hW'; go_simp; try (with_reducible rfl))
      (dsimp only [Act.put]; try simp only [List.setIfInBounds_toArray, List.set_cons_zero, List.set_cons_succ])
     refine held_one (i := 11) (by kernel_rfl) (by rfl) (by rfl) ?_
     have r0 := Xp.out.cell 0
     have f0 := Xp.out.free 0
     simp at r0
     go_wp2_with fail
     have Xp := hid (Xp.out.set 0 (.slice (some ⟨V54.heap.size, 0, none⟩) N N))
     simp at Xp
     have BV57 := hid (BV56.out.setCell (p := ⟨V55.heap.size, 0, none⟩) Gp.out (.slice (some ⟨V54.heap.size, 0, none⟩) N N))
     have Xc := hid (show Blk _ (V0.heap.size) _ _ from (heap_set1 V56 (V55.heap.size) 0 (.slice (some ⟨V54.heap.size, 0, none⟩) N N) (g := V0.heap.size) NE_c_p.out).trans Xc.out)
     have Xa := hid (show Blk _ (V53.heap.size) _ _ from (heap_set1 V56 (V55.heap.size) 0 (.slice (some ⟨V54.heap.size, 0, none⟩) N N) (g := V53.heap.size) NE_a_p.out).trans Xa.out)
     have Xb := hid (show Blk _ (V54.heap.size) _ _ from (heap_set1 V56 (V55.heap.size) 0 (.slice (some ⟨V54.heap.size, 0, none⟩) N N) (g := V54.heap.size) NE_b_p.out).trans Xb.out)
     obtain ⟨V57, hV⟩ : ∃ x, V56.setCell ⟨V55.heap.size, 0, none⟩ (.slice (some ⟨V54.heap.size, 0, none⟩) N N) = x := ⟨_, rfl⟩
     rw [hV] at BV57 Xc Xa Xb Xp ⊢
     clear hV r0 f0
     refine ⟨trivial, ?_⟩
     refine held_more (is := [12]) (g := 0) (by kernel_rfl) rfl trivial (by kernel_rfl) ?_
     iterate 1
      refine ⟨_, rfl, ?_⟩
      apply Exists.intro
      refine ⟨.inl ⟨by rfl, ?_⟩, ?_⟩
      ·(intro W' hW'; clear hW'; go_simp; try (with_reducible rfl))
      (dsimp only [Act.put]; try simp only [List.setIfInBounds_toArray, List.set_cons_zero, List.set_cons_succ])
     refine wpAnyH_done (by kernel_rfl) ?_ _
     simp only [Only]
     go_wp2_with fail
     go_meet
     exact ⟨_, _, _, _, rfl, rfl, rfl, ⟨zr_made Xa.out Ga.out HNN.out, Xp.out, PRow.new12 Xb.out Gb.out HNN.out, zr_madeN Xc.out Gc.out HNN.out, Gp.out, NE_a_p.out, NE_a_b.out, NE_a_c.out, NE_p_b.out, NE_p_c.out, NE_b_c.out⟩, BV57⟩
    ·skip
     go_wp2_with fail
     obtain ⟨V58, hV⟩ : ∃ x, V54.alloc (.cells #[.slice none 0 0] 53) = x := ⟨_, rfl⟩
     have hb : Below V54.heap.size V54 V58 := by rw [← hV]; exact (Below.refl _ _).alloc (Nat.le_refl _) _
     have Xp := hid (show Blk V58 V54.heap.size (#[.slice none 0 0]) 53 by rw [← hV]; exact Blk.new _ _ _)
     have BV58 := hid (bnext BV54.out hb)
     have Gp := hid (show W.heap.size ≤ V54.heap.size from BV54.out.size)
     have NE_p_c := hid (show V54.heap.size ≠ V0.heap.size from Nat.ne_of_gt Xc.out.lt)
     have NE_c_p := hid (show V0.heap.size ≠ V54.heap.size from Nat.ne_of_lt Xc.out.lt)
     have NE_p_a := hid (show V54.heap.size ≠ V53.heap.size from Nat.ne_of_gt Xa.out.lt)
     have NE_a_p := hid (show V53.heap.size ≠ V54.heap.size from Nat.ne_of_lt Xa.out.lt)
     have Xc := hid (Xc.out.call hb)
     have Xa := hid (Xa.out.call hb)
     rw [hV]
     clear hb hV
     refine ⟨trivial, ?_⟩
     refine held_more (is := [10]) (g := 3) (by kernel_rfl) rfl trivial (by kernel_rfl) ?_
     iterate 1
      refine ⟨_, rfl, ?_⟩
      apply Exists.intro
      refine ⟨.inl ⟨by rfl, ?_⟩, ?_⟩
      ·(intro W' hW'; clear hW'; go_simp; try (with_reducible rfl))
      (dsimp only [Act.put]; try simp only [List.setIfInBounds_toArray, List.set_cons_zero, List.set_cons_succ])
     refine held_one (i := 5) (by kernel_rfl) (by rfl) (by rfl) ?_
     go_wp2_with fail
     obtain ⟨V59, hV⟩ : ∃ x, V58.alloc (.cells (rp3 (.bool false) zz zz N).toArray 57) = x := ⟨_, rfl⟩
     have hb : Below V58.heap.size V58 V59 := by rw [← hV]; exact (Below.refl _ _).alloc (Nat.le_refl _) _
     have Xb := hid (show Blk V59 V58.heap.size ((rp3 (.bool false) zz zz N).toArray) 57 by rw [← hV]; exact Blk.new _ _ _)
     have BV59 := hid (bnext BV58.out hb)
     have Gb := hid (show W.heap.size ≤ V58.heap.size from BV58.out.size)
     have NE_b_c := hid (show V58.heap.size ≠ V0.heap.size from Nat.ne_of_gt Xc.out.lt)
     have NE_c_b := hid (show V0.heap.size ≠ V58.heap.size from Nat.ne_of_lt Xc.out.lt)
     have NE_b_a := hid (show V58.heap.size ≠ V53.heap.size from Nat.ne_of_gt Xa.out.lt)
     have NE_a_b := hid (show V53.heap.size ≠ V58.heap.size from Nat.ne_of_lt Xa.out.lt)
     have NE_b_p := hid (show V58.heap.size ≠ V54.heap.size from Nat.ne_of_gt Xp.out.lt)
     have NE_p_b := hid (show V54.heap.size ≠ V58.heap.size from Nat.ne_of_lt Xp.out.lt)
     have Xc := hid (Xc.out.call hb)
     have Xa := hid (Xa.out.call hb)
     have Xp := hid (Xp.out.call hb)
     rw [hV]
     clear hb hV
     refine ⟨trivial, ?_⟩
     refine held_one (i := 11) (by kernel_rfl) (by rfl) (by rfl) ?_
     have r0 := Xp.out.cell 0
     have f0 := Xp.out.free 0
     simp at r0
     go_wp2_with fail
     have Xp := hid (Xp.out.set 0 (.slice (some ⟨V58.heap.size, 0, none⟩) N N))
     simp at Xp
     have BV60 := hid (BV59.out.setCell (p := ⟨V54.heap.size, 0, none⟩) Gp.out (.slice (some ⟨V58.heap.size, 0, none⟩) N N))
     have Xc := hid (show Blk _ (V0.heap.size) _ _ from (heap_set1 V59 (V54.heap.size) 0 (.slice (some ⟨V58.heap.size, 0, none⟩) N N) (g := V0.heap.size) NE_c_p.out).trans Xc.out)
     have Xa := hid (show Blk _ (V53.heap.size) _ _ from (heap_set1 V59 (V54.heap.size) 0 (.slice (some ⟨V58.heap.size, 0, none⟩) N N) (g := V53.heap.size) NE_a_p.out).trans Xa.out)
     have Xb := hid (show Blk _ (V58.heap.size) _ _ from (heap_set1 V59 (V54.heap.size) 0 (.slice (some ⟨V58.heap.size, 0, none⟩) N N) (g := V58.heap.size) NE_b_p.out).trans Xb.out)
     obtain ⟨V60, hV⟩ : ∃ x, V59.setCell ⟨V54.heap.size, 0, none⟩ (.slice (some ⟨V58.heap.size, 0, none⟩) N N) = x := ⟨_, rfl⟩
     rw [hV] at BV60 Xc Xa Xp Xb ⊢
     clear hV r0 f0
     refine ⟨trivial, ?_⟩
     refine held_more (is := [12]) (g := 0) (by kernel_rfl) rfl trivial (by kernel_rfl) ?_
     iterate 1
      refine ⟨_, rfl, ?_⟩
      apply Exists.intro
      refine ⟨.inl ⟨by rfl, ?_⟩, ?_⟩
      ·(intro W' hW'; clear hW'; go_simp; try (with_reducible rfl))
      (dsimp only [Act.put]; try simp only [List.setIfInBounds_toArray, List.set_cons_zero, List.set_cons_succ])
     refine wpAnyH_done (by kernel_rfl) ?_ _
     simp only [Only]
     go_wp2_with fail
     go_meet
     exact ⟨_, _, _, _, rfl, rfl, rfl, ⟨zr_made Xa.out Ga.out HNN.out, Xp.out, PRow.new12 Xb.out Gb.out HNN.out, zr_madeN Xc.out Gc.out HNN.out, Gp.out, NE_a_p.out, NE_a_b.out, NE_a_c.out, NE_p_b.out, NE_p_c.out, NE_b_c.out⟩, BV60⟩
   ·skip
    go_wp2_with fail
    obtain ⟨V61, hV⟩ : ∃ x, V53.alloc (.cells (rp3 (.bool false) zz zz N).toArray 57) = x := ⟨_, rfl⟩
    have hb : Below V53.heap.size V53 V61 := by rw [← hV]; exact (Below.refl _ _).alloc (Nat.le_refl _) _
    have Xb := hid (show Blk V61 V53.heap.size ((rp3 (.bool false) zz zz N).toArray) 57 by rw [← hV]; exact Blk.new _ _ _)
    have BV61 := hid (bnext BV53.out hb)
    have Gb := hid (show W.heap.size ≤ V53.heap.size from BV53.out.size)
    have NE_b_c := hid (show V53.heap.size ≠ V0.heap.size from Nat.ne_of_gt Xc.out.lt)
    have NE_c_b := hid (show V0.heap.size ≠ V53.heap.size from Nat.ne_of_lt Xc.out.lt)
    have Xc := hid (Xc.out.call hb)
    rw [hV]
    clear hb hV
    refine ⟨trivial, ?_⟩
    refine held_two (i := 2) (j := 9) (by kernel_rfl) (by rfl) (by rfl) (by rfl) (by rfl) ?_ ?_
    ·skip
     go_wp2_with fail
     obtain ⟨V62, hV⟩ : ∃ x, V61.alloc (.cells (madeCells #[.int .i64 0] N) 3) = x := ⟨_, rfl⟩
     have hb : Below V61.heap.size V61 V62 := by rw [← hV]; exact (Below.refl _ _).alloc (Nat.le_refl _) _
     have Xa := hid (show Blk V62 V61.heap.size (madeCells #[.int .i64 0] N) 3 by rw [← hV]; exact Blk.new _ _ _)
     have BV62 := hid (bnext BV61.out hb)
     have Ga := hid (show W.heap.size ≤ V61.heap.size from BV61.out.size)
     have NE_a_c := hid (show V61.heap.size ≠ V0.heap.size from Nat.ne_of_gt Xc.out.lt)
     have NE_c_a := hid (show V0.heap.size ≠ V61.heap.size from Nat.ne_of_lt Xc.out.lt)
     have NE_a_b := hid (show V61.heap.size ≠ V53.heap.size from Nat.ne_of_gt Xb.out.lt)
     have NE_b_a := hid (show V53.heap.size ≠ V61.heap.size from Nat.ne_of_lt Xb.out.lt)
     have Xc := hid (Xc.out.call hb)
     have Xb := hid (Xb.out.call hb)
     rw [hV]
     clear hb hV
     refine ⟨trivial, ?_⟩
     refine held_one (i := 9) (by kernel_rfl) (by rfl) (by rfl) ?_
     go_wp2_with fail
     obtain ⟨V63, hV⟩ : ∃ x, V62.alloc (.cells #[.slice none 0 0] 53) = x := ⟨_, rfl⟩
     have hb : Below V62.heap.size V62 V63 := by rw [← hV]; exact (Below.refl _ _).alloc (Nat.le_refl _) _
     have Xp := hid (show Blk V63 V62.heap.size (#[.slice none 0 0]) 53 by rw [← hV]; exact Blk.new _ _ _)
     have BV63 := hid (bnext BV62.out hb)
     have Gp := hid (show W.heap.size ≤ V62.heap.size from BV62.out.size)
     have NE_p_c := hid (show V62.heap.size ≠ V0.heap.size from Nat.ne_of_gt Xc.out.lt)
     have NE_c_p := hid (show V0.heap.size ≠ V62.heap.size from Nat.ne_of_lt Xc.out.lt)
     have NE_p_b := hid (show V62.heap.size ≠ V53.heap.size from Nat.ne_of_gt Xb.out.lt)
     have NE_b_p := hid (show V53.heap.size ≠ V62.heap.size from Nat.ne_of_lt Xb.out.lt)
     have NE_p_a := hid (show V62.heap.size ≠ V61.heap.size from Nat.ne_of_gt Xa.out.lt)
     have NE_a_p := hid (show V61.heap.size ≠ V62.heap.size from Nat.ne_of_lt Xa.out.lt)
     have Xc := hid (Xc.out.call hb)
     have Xb := hid (Xb.out.call hb)
     have Xa := hid (Xa.out.call hb)
     rw [hV]
     clear hb hV
     refine ⟨trivial, ?_⟩
     refine held_more (is := [10]) (g := 2) (by kernel_rfl) rfl trivial (by kernel_rfl) ?_
     iterate 1
      refine ⟨_, rfl, ?_⟩
      apply Exists.intro
      refine ⟨.inl ⟨by rfl, ?_⟩, ?_⟩
      ·(intro W' hW'; clear hW'; go_simp; try (with_reducible rfl))
      (dsimp only [Act.put]; try simp only [List.setIfInBounds_toArray, List.set_cons_zero, List.set_cons_succ])
     refine held_one (i := 11) (by kernel_rfl) (by rfl) (by rfl) ?_
     have r0 := Xp.out.cell 0
     have f0 := Xp.out.free 0
     simp at r0
     go_wp2_with fail
     have Xp := hid (Xp.out.set 0 (.slice (some ⟨V53.heap.size, 0, none⟩) N N))
     simp at Xp
     have BV64 := hid (BV63.out.setCell (p := ⟨V62.heap.size, 0, none⟩) Gp.out (.slice (some ⟨V53.heap.size, 0, none⟩) N N))
     have Xc := hid (show Blk _ (V0.heap.size) _ _ from (heap_set1 V63 (V62.heap.size) 0 (.slice (some ⟨V53.heap.size, 0, none⟩) N N) (g := V0.heap.size) NE_c_p.out).trans Xc.out)
     have Xb := hid (show Blk _ (V53.heap.size) _ _ from (heap_set1 V63 (V62.heap.size) 0 (.slice (some ⟨V53.heap.size, 0, none⟩) N N) (g := V53.heap.size) NE_b_p.out).trans Xb.out)
     have Xa := hid (show Blk _ (V61.heap.size) _ _ from (heap_set1 V63 (V62.heap.size) 0 (.slice (some ⟨V53.heap.size, 0, none⟩) N N) (g := V61.heap.size) NE_a_p.out).trans Xa.out)
     obtain ⟨V64, hV⟩ : ∃ x, V63.setCell ⟨V62.heap.size, 0, none⟩ (.slice (some ⟨V53.heap.size, 0, none⟩) N N) = x := ⟨_, rfl⟩
     rw [hV] at BV64 Xc Xb Xa Xp ⊢
     clear hV r0 f0
     refine ⟨trivial, ?_⟩
     refine held_more (is := [12]) (g := 0) (by kernel_rfl) rfl trivial (by kernel_rfl) ?_
     iterate 1
      refine ⟨_, rfl, ?_⟩
      apply Exists.intro
      refine ⟨.inl ⟨by rfl, ?_⟩, ?_⟩
      ·(intro W' hW'; clear hW'; go_simp; try (with_reducible rfl))
      (dsimp only [Act.put]; try simp only [List.setIfInBounds_toArray, List.set_cons_zero, List.set_cons_succ])
     refine wpAnyH_done (by kernel_rfl) ?_ _
     simp only [Only]
     go_wp2_with fail
     go_meet
     exact ⟨_, _, _, _, rfl, rfl, rfl, ⟨zr_made Xa.out Ga.out HNN.out, Xp.out, PRow.new12 Xb.out Gb.out HNN.out, zr_madeN Xc.out Gc.out HNN.out, Gp.out, NE_a_p.out, NE_a_b.out, NE_a_c.out, NE_p_b.out, NE_p_c.out, NE_b_c.out⟩, BV64⟩
    ·skip
     go_wp2_with fail
     obtain ⟨V65, hV⟩ : ∃ x, V61.alloc (.cells #[.slice none 0 0] 53) = x := ⟨_, rfl⟩
     have hb : Below V61.heap.size V61 V65 := by rw [← hV]; exact (Below.refl _ _).alloc (Nat.le_refl _) _
     have Xp := hid (show Blk V65 V61.heap.size (#[.slice none 0 0]) 53 by rw [← hV]; exact Blk.new _ _ _)
     have BV65 := hid (bnext BV61.out hb)
     have Gp := hid (show W.heap.size ≤ V61.heap.size from BV61.out.size)
     have NE_p_c := hid (show V61.heap.size ≠ V0.heap.size from Nat.ne_of_gt Xc.out.lt)
     have NE_c_p := hid (show V0.heap.size ≠ V61.heap.size from Nat.ne_of_lt Xc.out.lt)
     have NE_p_b := hid (show V61.heap.size ≠ V53.heap.size from Nat.ne_of_gt Xb.out.lt)
     have NE_b_p := hid (show V53.heap.size ≠ V61.heap.size from Nat.ne_of_lt Xb.out.lt)
     have Xc := hid (Xc.out.call hb)
     have Xb := hid (Xb.out.call hb)
     rw [hV]
     clear hb hV
     refine ⟨trivial, ?_⟩
     refine held_one (i := 2) (by kernel_rfl) (by rfl) (by rfl) ?_
     go_wp2_with fail
     obtain ⟨V66, hV⟩ : ∃ x, V65.alloc (.cells (madeCells #[.int .i64 0] N) 3) = x := ⟨_, rfl⟩
     have hb : Below V65.heap.size V65 V66 := by rw [← hV]; exact (Below.refl _ _).alloc (Nat.le_refl _) _
     have Xa := hid (show Blk V66 V65.heap.size (madeCells #[.int .i64 0] N) 3 by rw [← hV]; exact Blk.new _ _ _)
     have BV66 := hid (bnext BV65.out hb)
     have Ga := hid (show W.heap.size ≤ V65.heap.size from BV65.out.size)
     have NE_a_c := hid (show V65.heap.size ≠ V0.heap.size from Nat.ne_of_gt Xc.out.lt)
     have NE_c_a := hid (show V0.heap.size ≠ V65.heap.size from Nat.ne_of_lt Xc.out.lt)
     have NE_a_b := hid (show V65.heap.size ≠ V53.heap.size from Nat.ne_of_gt Xb.out.lt)
     have NE_b_a := hid (show V53.heap.size ≠ V65.heap.size from Nat.ne_of_lt Xb.out.lt)
     have NE_a_p := hid (show V65.heap.size ≠ V61.heap.size from Nat.ne_of_gt Xp.out.lt)
     have NE_p_a := hid (show V61.heap.size ≠ V65.heap.size from Nat.ne_of_lt Xp.out.lt)
     have Xc := hid (Xc.out.call hb)
     have Xb := hid (Xb.out.call hb)
     have Xp := hid (Xp.out.call hb)
     rw [hV]
     clear hb hV
     refine ⟨trivial, ?_⟩
     refine held_more (is := [10]) (g := 2) (by kernel_rfl) rfl trivial (by kernel_rfl) ?_
     iterate 1
      refine ⟨_, rfl, ?_⟩
      apply Exists.intro
      refine ⟨.inl ⟨by rfl, ?_⟩, ?_⟩
      ·(intro W' hW'; clear hW'; go_simp; try (with_reducible rfl))
      (dsimp only [Act.put]; try simp only [List.setIfInBounds_toArray, List.set_cons_zero, List.set_cons_succ])
     refine held_one (i := 11) (by kernel_rfl) (by rfl) (by rfl) ?_
     have r0 := Xp.out.cell 0
     have f0 := Xp.out.free 0
     simp at r0
     go_wp2_with fail
     have Xp := hid (Xp.out.set 0 (.slice (some ⟨V53.heap.size, 0, none⟩) N N))
     simp at Xp
     have BV67 := hid (BV66.out.setCell (p := ⟨V61.heap.size, 0, none⟩) Gp.out (.slice (some ⟨V53.heap.size, 0, none⟩) N N))
     have Xc := hid (show Blk _ (V0.heap.size) _ _ from (heap_set1 V66 (V61.heap.size) 0 (.slice (some ⟨V53.heap.size, 0, none⟩) N N) (g := V0.heap.size) NE_c_p.out).trans Xc.out)
     have Xb := hid (show Blk _ (V53.heap.size) _ _ from (heap_set1 V66 (V61.heap.size) 0 (.slice (some ⟨V53.heap.size, 0, none⟩) N N) (g := V53.heap.size) NE_b_p.out).trans Xb.out)
     have Xa := hid (show Blk _ (V65.heap.size) _ _ from (heap_set1 V66 (V61.heap.size) 0 (.slice (some ⟨V53.heap.size, 0, none⟩) N N) (g := V65.heap.size) NE_a_p.out).trans Xa.out)
     obtain ⟨V67, hV⟩ : ∃ x, V66.setCell ⟨V61.heap.size, 0, none⟩ (.slice (some ⟨V53.heap.size, 0, none⟩) N N) = x := ⟨_, rfl⟩
     rw [hV] at BV67 Xc Xb Xp Xa ⊢
     clear hV r0 f0
     refine ⟨trivial, ?_⟩
     refine held_more (is := [12]) (g := 0) (by kernel_rfl) rfl trivial (by kernel_rfl) ?_
     iterate 1
      refine ⟨_, rfl, ?_⟩
      apply Exists.intro
      refine ⟨.inl ⟨by rfl, ?_⟩, ?_⟩
      ·(intro W' hW'; clear hW'; go_simp; try (with_reducible rfl))
      (dsimp only [Act.put]; try simp only [List.setIfInBounds_toArray, List.set_cons_zero, List.set_cons_succ])
     refine wpAnyH_done (by kernel_rfl) ?_ _
     simp only [Only]
     go_wp2_with fail
     go_meet
     exact ⟨_, _, _, _, rfl, rfl, rfl, ⟨zr_made Xa.out Ga.out HNN.out, Xp.out, PRow.new12 Xb.out Gb.out HNN.out, zr_madeN Xc.out Gc.out HNN.out, Gp.out, NE_a_p.out, NE_a_b.out, NE_a_c.out, NE_p_b.out, NE_p_c.out, NE_b_c.out⟩, BV67⟩
   ·skip
    go_wp2_with fail
    obtain ⟨V68, hV⟩ : ∃ x, V53.alloc (.cells #[.slice none 0 0] 53) = x := ⟨_, rfl⟩
    have hb : Below V53.heap.size V53 V68 := by rw [← hV]; exact (Below.refl _ _).alloc (Nat.le_refl _) _
    have Xp := hid (show Blk V68 V53.heap.size (#[.slice none 0 0]) 53 by rw [← hV]; exact Blk.new _ _ _)
    have BV68 := hid (bnext BV53.out hb)
    have Gp := hid (show W.heap.size ≤ V53.heap.size from BV53.out.size)
    have NE_p_c := hid (show V53.heap.size ≠ V0.heap.size from Nat.ne_of_gt Xc.out.lt)
    have NE_c_p := hid (show V0.heap.size ≠ V53.heap.size from Nat.ne_of_lt Xc.out.lt)
    have Xc := hid (Xc.out.call hb)
    rw [hV]
    clear hb hV
    refine ⟨trivial, ?_⟩
    refine held_two (i := 2) (j := 5) (by kernel_rfl) (by rfl) (by rfl) (by rfl) (by rfl) ?_ ?_
    ·skip
     go_wp2_with fail
     obtain ⟨V69, hV⟩ : ∃ x, V68.alloc (.cells (madeCells #[.int .i64 0] N) 3) = x := ⟨_, rfl⟩
     have hb : Below V68.heap.size V68 V69 := by rw [← hV]; exact (Below.refl _ _).alloc (Nat.le_refl _) _
     have Xa := hid (show Blk V69 V68.heap.size (madeCells #[.int .i64 0] N) 3 by rw [← hV]; exact Blk.new _ _ _)
     have BV69 := hid (bnext BV68.out hb)
     have Ga := hid (show W.heap.size ≤ V68.heap.size from BV68.out.size)
     have NE_a_c := hid (show V68.heap.size ≠ V0.heap.size from Nat.ne_of_gt Xc.out.lt)
     have NE_c_a := hid (show V0.heap.size ≠ V68.heap.size from Nat.ne_of_lt Xc.out.lt)
     have NE_a_p := hid (show V68.heap.size ≠ V53.heap.size from Nat.ne_of_gt Xp.out.lt)
     have NE_p_a := hid (show V53.heap.size ≠ V68.heap.size from Nat.ne_of_lt Xp.out.lt)
     have Xc := hid (Xc.out.call hb)
     have Xp := hid (Xp.out.call hb)
     rw [hV]
     clear hb hV
     refine ⟨trivial, ?_⟩
     refine held_more (is := [10]) (g := 3) (by kernel_rfl) rfl trivial (by kernel_rfl) ?_
     iterate 1
      refine ⟨_, rfl, ?_⟩
      apply Exists.intro
      refine ⟨.inl ⟨by rfl, ?_⟩, ?_⟩
      ·(intro W' hW'; clear hW'; go_simp; try (with_reducible rfl))
      (dsimp only [Act.put]; try simp only [List.setIfInBounds_toArray, List.set_cons_zero, List.set_cons_succ])
     refine held_one (i := 5) (by kernel_rfl) (by rfl) (by rfl) ?_
     go_wp2_with fail
     obtain ⟨V70, hV⟩ : ∃ x, V69.alloc (.cells (rp3 (.bool false) zz zz N).toArray 57) = x := ⟨_, rfl⟩
     have hb : Below V69.heap.size V69 V70 := by rw [← hV]; exact (Below.refl _ _).alloc (Nat.le_refl _) _
     have Xb := hid (show Blk V70 V69.heap.size ((rp3 (.bool false) zz zz N).toArray) 57 by rw [← hV]; exact Blk.new _ _ _)
     have BV70 := hid (bnext BV69.out hb)
     have Gb := hid (show W.heap.size ≤ V69.heap.size from BV69.out.size)
     have NE_b_c := hid (show V69.heap.size ≠ V0.heap.size from Nat.ne_of_gt Xc.out.lt)
     have NE_c_b := hid (show V0.heap.size ≠ V69.heap.size from Nat.ne_of_lt Xc.out.lt)
     have NE_b_p := hid (show V69.heap.size ≠ V53.heap.size from Nat.ne_of_gt Xp.out.lt)
     have NE_p_b := hid (show V53.heap.size ≠ V69.heap.size from Nat.ne_of_lt Xp.out.lt)
     have NE_b_a := hid (show V69.heap.size ≠ V68.heap.size from Nat.ne_of_gt Xa.out.lt)
     have NE_a_b := hid (show V68.heap.size ≠ V69.heap.size from Nat.ne_of_lt Xa.out.lt)
     have Xc := hid (Xc.out.call hb)
     have Xp := hid (Xp.out.call hb)
     have Xa := hid (Xa.out.call hb)
     rw [hV]
     clear hb hV
     refine ⟨trivial, ?_⟩
     refine held_one (i := 11) (by kernel_rfl) (by rfl) (by rfl) ?_
     have r0 := Xp.out.cell 0
     have f0 := Xp.out.free 0
     simp at r0
     go_wp2_with fail
     have Xp := hid (Xp.out.set 0 (.slice (some ⟨V69.heap.size, 0, none⟩) N N))
     simp at Xp
     have BV71 := hid (BV70.out.setCell (p := ⟨V53.heap.size, 0, none⟩) Gp.out (.slice (some ⟨V69.heap.size, 0, none⟩) N N))
     have Xc := hid (show Blk _ (V0.heap.size) _ _ from (heap_set1 V70 (V53.heap.size) 0 (.slice (some ⟨V69.heap.size, 0, none⟩) N N) (g := V0.heap.size) NE_c_p.out).trans Xc.out)
     have Xa := hid (show Blk _ (V68.heap.size) _ _ from (heap_set1 V70 (V53.heap.size) 0 (.slice (some ⟨V69.heap.size, 0, none⟩) N N) (g := V68.heap.size) NE_a_p.out).trans Xa.out)
     have Xb := hid (show Blk _ (V69.heap.size) _ _ from (heap_set1 V70 (V53.heap.size) 0 (.slice (some ⟨V69.heap.size, 0, none⟩) N N) (g := V69.heap.size) NE_b_p.out).trans Xb.out)
     obtain ⟨V71, hV⟩ : ∃ x, V70.setCell ⟨V53.heap.size, 0, none⟩ (.slice (some ⟨V69.heap.size, 0, none⟩) N N) = x := ⟨_, rfl⟩
     rw [hV] at BV71 Xc Xp Xa Xb ⊢
     clear hV r0 f0
     refine ⟨trivial, ?_⟩
     refine held_more (is := [12]) (g := 0) (by kernel_rfl) rfl trivial (by kernel_rfl) ?_
     iterate 1
      refine ⟨_, rfl, ?_⟩
      apply Exists.intro
      refine ⟨.inl ⟨by rfl, ?_⟩, ?_⟩
      ·(intro W' hW'; clear hW'; go_simp; try (with_reducible rfl))
      (dsimp only [Act.put]; try simp only [List.setIfInBounds_toArray, List.set_cons_zero, List.set_cons_succ])
     refine wpAnyH_done (by kernel_rfl) ?_ _
     simp only [Only]
     go_wp2_with fail
     go_meet
     exact ⟨_, _, _, _, rfl, rfl, rfl, ⟨zr_made Xa.out Ga.out HNN.out, Xp.out, PRow.new12 Xb.out Gb.out HNN.out, zr_madeN Xc.out Gc.out HNN.out, Gp.out, NE_a_p.out, NE_a_b.out, NE_a_c.out, NE_p_b.out, NE_p_c.out, NE_b_c.out⟩, BV71⟩
    ·skip
     go_wp2_with fail
     obtain ⟨V72, hV⟩ : ∃ x, V68.alloc (.cells (rp3 (.bool false) zz zz N).toArray 57) = x := ⟨_, rfl⟩
     have hb : Below V68.heap.size V68 V72 := by rw [← hV]; exact (Below.refl _ _).alloc (Nat.le_refl _) _
     have Xb := hid (show Blk V72 V68.heap.size ((rp3 (.bool false) zz zz N).toArray) 57 by rw [← hV]; exact Blk.new _ _ _)
     have BV72 := hid (bnext BV68.out hb)
     have Gb := hid (show W.heap.size ≤ V68.heap.size from BV68.out.size)
     have NE_b_c := hid (show V68.heap.size ≠ V0.heap.size from Nat.ne_of_gt Xc.out.lt)
     have NE_c_b := hid (show V0.heap.size ≠ V68.heap.size from Nat.ne_of_lt Xc.out.lt)
     have NE_b_p := hid (show V68.heap.size ≠ V53.heap.size from Nat.ne_of_gt Xp.out.lt)
     have NE_p_b := hid (show V53.heap.size ≠ V68.heap.size from Nat.ne_of_lt Xp.out.lt)
     have Xc := hid (Xc.out.call hb)
     have Xp := hid (Xp.out.call hb)
     rw [hV]
     clear hb hV
     refine ⟨trivial, ?_⟩
     refine held_one (i := 2) (by kernel_rfl) (by rfl) (by rfl) ?_
     go_wp2_with fail
     obtain ⟨V73, hV⟩ : ∃ x, V72.alloc (.cells (madeCells #[.int .i64 0] N) 3) = x := ⟨_, rfl⟩
     have hb : Below V72.heap.size V72 V73 := by rw [← hV]; exact (Below.refl _ _).alloc (Nat.le_refl _) _
     have Xa := hid (show Blk V73 V72.heap.size (madeCells #[.int .i64 0] N) 3 by rw [← hV]; exact Blk.new _ _ _)
     have BV73 := hid (bnext BV72.out hb)
     have Ga := hid (show W.heap.size ≤ V72.heap.size from BV72.out.size)
     have NE_a_c := hid (show V72.heap.size ≠ V0.heap.size from Nat.ne_of_gt Xc.out.lt)
     have NE_c_a := hid (show V0.heap.size ≠ V72.heap.size from Nat.ne_of_lt Xc.out.lt)
     have NE_a_p := hid (show V72.heap.size ≠ V53.heap.size from Nat.ne_of_gt Xp.out.lt)
     have NE_p_a := hid (show V53.heap.size ≠ V72.heap.size from Nat.ne_of_lt Xp.out.lt)
     have NE_a_b := hid (show V72.heap.size ≠ V68.heap.size from Nat.ne_of_gt Xb.out.lt)
     have NE_b_a := hid (show V68.heap.size ≠ V72.heap.size from Nat.ne_of_lt Xb.out.lt)
     have Xc := hid (Xc.out.call hb)
     have Xp := hid (Xp.out.call hb)
     have Xb := hid (Xb.out.call hb)
     rw [hV]
     clear hb hV
     refine ⟨trivial, ?_⟩
     refine held_more (is := [10]) (g := 2) (by kernel_rfl) rfl trivial (by kernel_rfl) ?_
     iterate 1
      refine ⟨_, rfl, ?_⟩
      apply Exists.intro
      refine ⟨.inl ⟨by rfl, ?_⟩, ?_⟩
      ·(intro W' hW'; clear hW'; go_simp; try (with_reducible rfl))
      (dsimp only [Act.put]; try simp only [List.setIfInBounds_toArray, List.set_cons_zero, List.set_cons_succ])
     refine held_one (i := 11) (by kernel_rfl) (by rfl) (by rfl) ?_
     have r0 := Xp.out.cell 0
     have f0 := Xp.out.free 0
     simp at r0
     go_wp2_with fail
     have Xp := hid (Xp.out.set 0 (.slice (some ⟨V68.heap.size, 0, none⟩) N N))
     simp at Xp
     have BV74 := hid (BV73.out.setCell (p := ⟨V53.heap.size, 0, none⟩) Gp.out (.slice (some ⟨V68.heap.size, 0, none⟩) N N))
     have Xc := hid (show Blk _ (V0.heap.size) _ _ from (heap_set1 V73 (V53.heap.size) 0 (.slice (some ⟨V68.heap.size, 0, none⟩) N N) (g := V0.heap.size) NE_c_p.out).trans Xc.out)
     have Xb := hid (show Blk _ (V68.heap.size) _ _ from (heap_set1 V73 (V53.heap.size) 0 (.slice (some ⟨V68.heap.size, 0, none⟩) N N) (g := V68.heap.size) NE_b_p.out).trans Xb.out)
     have Xa := hid (show Blk _ (V72.heap.size) _ _ from (heap_set1 V73 (V53.heap.size) 0 (.slice (some ⟨V68.heap.size, 0, none⟩) N N) (g := V72.heap.size) NE_a_p.out).trans Xa.out)
     obtain ⟨V74, hV⟩ : ∃ x, V73.setCell ⟨V53.heap.size, 0, none⟩ (.slice (some ⟨V68.heap.size, 0, none⟩) N N) = x := ⟨_, rfl⟩
     rw [hV] at BV74 Xc Xp Xb Xa ⊢
     clear hV r0 f0
     refine ⟨trivial, ?_⟩
     refine held_more (is := [12]) (g := 0) (by kernel_rfl) rfl trivial (by kernel_rfl) ?_
     iterate 1
      refine ⟨_, rfl, ?_⟩
      apply Exists.intro
      refine ⟨.inl ⟨by rfl, ?_⟩, ?_⟩
      ·(intro W' hW'; clear hW'; go_simp; try (with_reducible rfl))
      (dsimp only [Act.put]; try simp only [List.setIfInBounds_toArray, List.set_cons_zero, List.set_cons_succ])
     refine wpAnyH_done (by kernel_rfl) ?_ _
     simp only [Only]
     go_wp2_with fail
     go_meet
     exact ⟨_, _, _, _, rfl, rfl, rfl, ⟨zr_made Xa.out Ga.out HNN.out, Xp.out, PRow.new12 Xb.out Gb.out HNN.out, zr_madeN Xc.out Gc.out HNN.out, Gp.out, NE_a_p.out, NE_a_b.out, NE_a_c.out, NE_p_b.out, NE_p_c.out, NE_b_c.out⟩, BV74⟩
  ·skip
   go_wp2_with fail
   obtain ⟨V75, hV⟩ : ∃ x, V0.alloc (.cells #[.slice none 0 0] 53) = x := ⟨_, rfl⟩
   have hb : Below V0.heap.size V0 V75 := by rw [← hV]; exact (Below.refl _ _).alloc (Nat.le_refl _) _
   have Xp := hid (show Blk V75 V0.heap.size (#[.slice none 0 0]) 53 by rw [← hV]; exact Blk.new _ _ _)
   have BV75 := hid (bnext BV0.out hb)
   have Gp := hid (show W.heap.size ≤ V0.heap.size from BV0.out.size)
   rw [hV]
   clear hb hV
   refine ⟨trivial, ?_⟩
   refine held_three (i := 2) (j := 5) (k := 8) (by kernel_rfl) (by rfl) (by rfl) (by rfl) (by rfl) (by rfl) (by rfl) ?_ ?_ ?_
   ·skip
    go_wp2_with fail
    obtain ⟨V76, hV⟩ : ∃ x, V75.alloc (.cells (madeCells #[.int .i64 0] N) 3) = x := ⟨_, rfl⟩
    have hb : Below V75.heap.size V75 V76 := by rw [← hV]; exact (Below.refl _ _).alloc (Nat.le_refl _) _
    have Xa := hid (show Blk V76 V75.heap.size (madeCells #[.int .i64 0] N) 3 by rw [← hV]; exact Blk.new _ _ _)
    have BV76 := hid (bnext BV75.out hb)
    have Ga := hid (show W.heap.size ≤ V75.heap.size from BV75.out.size)
    have NE_a_p := hid (show V75.heap.size ≠ V0.heap.size from Nat.ne_of_gt Xp.out.lt)
    have NE_p_a := hid (show V0.heap.size ≠ V75.heap.size from Nat.ne_of_lt Xp.out.lt)
    have Xp := hid (Xp.out.call hb)
    rw [hV]
    clear hb hV
    refine ⟨trivial, ?_⟩
    refine held_more (is := [10]) (g := 4) (by kernel_rfl) rfl trivial (by kernel_rfl) ?_
    iterate 1
     refine ⟨_, rfl, ?_⟩
     apply Exists.intro
     refine ⟨.inl ⟨by rfl, ?_⟩, ?_⟩
     ·(intro W' hW'; clear hW'; go_simp; try (with_reducible rfl))
     (dsimp only [Act.put]; try simp only [List.setIfInBounds_toArray, List.set_cons_zero, List.set_cons_succ])
    refine held_two (i := 5) (j := 8) (by kernel_rfl) (by rfl) (by rfl) (by rfl) (by rfl) ?_ ?_
    ·skip
     go_wp2_with fail
     obtain ⟨V77, hV⟩ : ∃ x, V76.alloc (.cells (rp3 (.bool false) zz zz N).toArray 57) = x := ⟨_, rfl⟩
     have hb : Below V76.heap.size V76 V77 := by rw [← hV]; exact (Below.refl _ _).alloc (Nat.le_refl _) _
     have Xb := hid (show Blk V77 V76.heap.size ((rp3 (.bool false) zz zz N).toArray) 57 by rw [← hV]; exact Blk.new _ _ _)
     have BV77 := hid (bnext BV76.out hb)
     have Gb := hid (show W.heap.size ≤ V76.heap.size from BV76.out.size)
     have NE_b_p := hid (show V76.heap.size ≠ V0.heap.size from Nat.ne_of_gt Xp.out.lt)
     have NE_p_b := hid (show V0.heap.size ≠ V76.heap.size from Nat.ne_of_lt Xp.out.lt)
     have NE_b_a := hid (show V76.heap.size ≠ V75.heap.size from Nat.ne_of_gt Xa.out.lt)
     have NE_a_b := hid (show V75.heap.size ≠ V76.heap.size from Nat.ne_of_lt Xa.out.lt)
     have Xp := hid (Xp.out.call hb)
     have Xa := hid (Xa.out.call hb)
     rw [hV]
     clear hb hV
     refine ⟨trivial, ?_⟩
     refine held_two (i := 8) (j := 11) (by kernel_rfl) (by rfl) (by rfl) (by rfl) (by rfl) ?_ ?_
     ·skip
      go_wp2_with fail
      obtain ⟨V78, hV⟩ : ∃ x, V77.alloc (.cells (madeCells #[.int .i64 0] N) 3) = x := ⟨_, rfl⟩
      have hb : Below V77.heap.size V77 V78 := by rw [← hV]; exact (Below.refl _ _).alloc (Nat.le_refl _) _
      have Xc := hid (show Blk V78 V77.heap.size (madeCells #[.int .i64 0] N) 3 by rw [← hV]; exact Blk.new _ _ _)
      have BV78 := hid (bnext BV77.out hb)
      have Gc := hid (show W.heap.size ≤ V77.heap.size from BV77.out.size)
      have NE_c_p := hid (show V77.heap.size ≠ V0.heap.size from Nat.ne_of_gt Xp.out.lt)
      have NE_p_c := hid (show V0.heap.size ≠ V77.heap.size from Nat.ne_of_lt Xp.out.lt)
      have NE_c_a := hid (show V77.heap.size ≠ V75.heap.size from Nat.ne_of_gt Xa.out.lt)
      have NE_a_c := hid (show V75.heap.size ≠ V77.heap.size from Nat.ne_of_lt Xa.out.lt)
      have NE_c_b := hid (show V77.heap.size ≠ V76.heap.size from Nat.ne_of_gt Xb.out.lt)
      have NE_b_c := hid (show V76.heap.size ≠ V77.heap.size from Nat.ne_of_lt Xb.out.lt)
      have Xp := hid (Xp.out.call hb)
      have Xa := hid (Xa.out.call hb)
      have Xb := hid (Xb.out.call hb)
      rw [hV]
      clear hb hV
      refine ⟨trivial, ?_⟩
      refine held_one (i := 11) (by kernel_rfl) (by rfl) (by rfl) ?_
      have r0 := Xp.out.cell 0
      have f0 := Xp.out.free 0
      simp at r0
      go_wp2_with fail
      have Xp := hid (Xp.out.set 0 (.slice (some ⟨V76.heap.size, 0, none⟩) N N))
      simp at Xp
      have BV79 := hid (BV78.out.setCell (p := ⟨V0.heap.size, 0, none⟩) Gp.out (.slice (some ⟨V76.heap.size, 0, none⟩) N N))
      have Xa := hid (show Blk _ (V75.heap.size) _ _ from (heap_set1 V78 (V0.heap.size) 0 (.slice (some ⟨V76.heap.size, 0, none⟩) N N) (g := V75.heap.size) NE_a_p.out).trans Xa.out)
      have Xb := hid (show Blk _ (V76.heap.size) _ _ from (heap_set1 V78 (V0.heap.size) 0 (.slice (some ⟨V76.heap.size, 0, none⟩) N N) (g := V76.heap.size) NE_b_p.out).trans Xb.out)
      have Xc := hid (show Blk _ (V77.heap.size) _ _ from (heap_set1 V78 (V0.heap.size) 0 (.slice (some ⟨V76.heap.size, 0, none⟩) N N) (g := V77.heap.size) NE_c_p.out).trans Xc.out)
      obtain ⟨V79, hV⟩ : ∃ x, V78.setCell ⟨V0.heap.size, 0, none⟩ (.slice (some ⟨V76.heap.size, 0, none⟩) N N) = x := ⟨_, rfl⟩
      rw [hV] at BV79 Xp Xa Xb Xc ⊢
      clear hV r0 f0
      refine ⟨trivial, ?_⟩
      refine held_more (is := [12]) (g := 0) (by kernel_rfl) rfl trivial (by kernel_rfl) ?_
      iterate 1
       refine ⟨_, rfl, ?_⟩
       apply Exists.intro
       refine ⟨.inl ⟨by rfl, ?_⟩, ?_⟩
       ·(intro W' hW'; clear hW'; go_simp; try (with_reducible rfl))
       (dsimp only [Act.put]; try simp only [List.setIfInBounds_toArray, List.set_cons_zero, List.set_cons_succ])
      refine wpAnyH_done (by kernel_rfl) ?_ _
      simp only [Only]
      go_wp2_with fail
      go_meet
      exact ⟨_, _, _, _, rfl, rfl, rfl, ⟨zr_made Xa.out Ga.out HNN.out, Xp.out, PRow.new12 Xb.out Gb.out HNN.out, zr_madeN Xc.out Gc.out HNN.out, Gp.out, NE_a_p.out, NE_a_b.out, NE_a_c.out, NE_p_b.out, NE_p_c.out, NE_b_c.out⟩, BV79⟩
     ·skip
      have r0 := Xp.out.cell 0
      have f0 := Xp.out.free 0
      simp at r0
      go_wp2_with fail
      have Xp := hid (Xp.out.set 0 (.slice (some ⟨V76.heap.size, 0, none⟩) N N))
      simp at Xp
      have BV80 := hid (BV77.out.setCell (p := ⟨V0.heap.size, 0, none⟩) Gp.out (.slice (some ⟨V76.heap.size, 0, none⟩) N N))
      have Xa := hid (show Blk _ (V75.heap.size) _ _ from (heap_set1 V77 (V0.heap.size) 0 (.slice (some ⟨V76.heap.size, 0, none⟩) N N) (g := V75.heap.size) NE_a_p.out).trans Xa.out)
      have Xb := hid (show Blk _ (V76.heap.size) _ _ from (heap_set1 V77 (V0.heap.size) 0 (.slice (some ⟨V76.heap.size, 0, none⟩) N N) (g := V76.heap.size) NE_b_p.out).trans Xb.out)
      obtain ⟨V80, hV⟩ : ∃ x, V77.setCell ⟨V0.heap.size, 0, none⟩ (.slice (some ⟨V76.heap.size, 0, none⟩) N N) = x := ⟨_, rfl⟩
      rw [hV] at BV80 Xp Xa Xb ⊢
      clear hV r0 f0
      refine ⟨trivial, ?_⟩
      refine held_one (i := 8) (by kernel_rfl) (by rfl) (by rfl) ?_
      go_wp2_with fail
      obtain ⟨V81, hV⟩ : ∃ x, V80.alloc (.cells (madeCells #[.int .i64 0] N) 3) = x := ⟨_, rfl⟩
      have hb : Below V80.heap.size V80 V81 := by rw [← hV]; exact (Below.refl _ _).alloc (Nat.le_refl _) _
      have Xc := hid (show Blk V81 V80.heap.size (madeCells #[.int .i64 0] N) 3 by rw [← hV]; exact Blk.new _ _ _)
      have BV81 := hid (bnext BV80.out hb)
      have Gc := hid (show W.heap.size ≤ V80.heap.size from BV80.out.size)
      have NE_c_p := hid (show V80.heap.size ≠ V0.heap.size from Nat.ne_of_gt Xp.out.lt)
      have NE_p_c := hid (show V0.heap.size ≠ V80.heap.size from Nat.ne_of_lt Xp.out.lt)
      have NE_c_a := hid (show V80.heap.size ≠ V75.heap.size from Nat.ne_of_gt Xa.out.lt)
      have NE_a_c := hid (show V75.heap.size ≠ V80.heap.size from Nat.ne_of_lt Xa.out.lt)
      have NE_c_b := hid (show V80.heap.size ≠ V76.heap.size from Nat.ne_of_gt Xb.out.lt)
      have NE_b_c := hid (show V76.heap.size ≠ V80.heap.size from Nat.ne_of_lt Xb.out.lt)
      have Xp := hid (Xp.out.call hb)
      have Xa := hid (Xa.out.call hb)
      have Xb := hid (Xb.out.call hb)
      rw [hV]
      clear hb hV
      refine ⟨trivial, ?_⟩
      refine held_more (is := [12]) (g := 0) (by kernel_rfl) rfl trivial (by kernel_rfl) ?_
      iterate 1
       refine ⟨_, rfl, ?_⟩
       apply Exists.intro
       refine ⟨.inl ⟨by rfl, ?_⟩, ?_⟩
       ·(intro W' hW'; clear hW'; go_simp; try (with_reducible rfl))
       (dsimp only [Act.put]; try simp only [List.setIfInBounds_toArray, List.set_cons_zero, List.set_cons_succ])
      refine wpAnyH_done (by kernel_rfl) ?_ _
      simp only [Only]
      go_wp2_with fail
      go_meet
      exact ⟨_, _, _, _, rfl, rfl, rfl, ⟨zr_made Xa.out Ga.out HNN.out, Xp.out, PRow.new12 Xb.out Gb.out HNN.out, zr_madeN Xc.out Gc.out HNN.out, Gp.out, NE_a_p.out, NE_a_b.out, NE_a_c.out, NE_p_b.out, NE_p_c.out, NE_b_c.out⟩, BV81⟩
    ·skip
     go_wp2_with fail
     obtain ⟨V82, hV⟩ : ∃ x, V76.alloc (.cells (madeCells #[.int .i64 0] N) 3) = x := ⟨_, rfl⟩
     have hb : Below V76.heap.size V76 V82 := by rw [← hV]; exact (Below.refl _ _).alloc (Nat.le_refl _) _
     have Xc := hid (show Blk V82 V76.heap.size (madeCells #[.int .i64 0] N) 3 by rw [← hV]; exact Blk.new _ _ _)
     have BV82 := hid (bnext BV76.out hb)
     have Gc := hid (show W.heap.size ≤ V76.heap.size from BV76.out.size)
     have NE_c_p := hid (show V76.heap.size ≠ V0.heap.size from Nat.ne_of_gt Xp.out.lt)
     have NE_p_c := hid (show V0.heap.size ≠ V76.heap.size from Nat.ne_of_lt Xp.out.lt)
     have NE_c_a := hid (show V76.heap.size ≠ V75.heap.size from Nat.ne_of_gt Xa.out.lt)
     have NE_a_c := hid (show V75.heap.size ≠ V76.heap.size from Nat.ne_of_lt Xa.out.lt)
     have Xp := hid (Xp.out.call hb)
     have Xa := hid (Xa.out.call hb)
     rw [hV]
     clear hb hV
     refine ⟨trivial, ?_⟩
     refine held_one (i := 5) (by kernel_rfl) (by rfl) (by rfl) ?_
     go_wp2_with fail
     obtain ⟨V83, hV⟩ : ∃ x, V82.alloc (.cells (rp3 (.bool false) zz zz N).toArray 57) = x := ⟨_, rfl⟩
     have hb : Below V82.heap.size V82 V83 := by rw [← hV]; exact (Below.refl _ _).alloc (Nat.le_refl _) _
     have Xb := hid (show Blk V83 V82.heap.size ((rp3 (.bool false) zz zz N).toArray) 57 by rw [← hV]; exact Blk.new _ _ _)
     have BV83 := hid (bnext BV82.out hb)
     have Gb := hid (show W.heap.size ≤ V82.heap.size from BV82.out.size)
     have NE_b_p := hid (show V82.heap.size ≠ V0.heap.size from Nat.ne_of_gt Xp.out.lt)
     have NE_p_b := hid (show V0.heap.size ≠ V82.heap.size from Nat.ne_of_lt Xp.out.lt)
     have NE_b_a := hid (show V82.heap.size ≠ V75.heap.size from Nat.ne_of_gt Xa.out.lt)
     have NE_a_b := hid (show V75.heap.size ≠ V82.heap.size from Nat.ne_of_lt Xa.out.lt)
     have NE_b_c := hid (show V82.heap.size ≠ V76.heap.size from Nat.ne_of_gt Xc.out.lt)
     have NE_c_b := hid (show V76.heap.size ≠ V82.heap.size from Nat.ne_of_lt Xc.out.lt)
     have Xp := hid (Xp.out.call hb)
     have Xa := hid (Xa.out.call hb)
     have Xc := hid (Xc.out.call hb)
     rw [hV]
     clear hb hV
     refine ⟨trivial, ?_⟩
     refine held_one (i := 11) (by kernel_rfl) (by rfl) (by rfl) ?_
     have r0 := Xp.out.cell 0
     have f0 := Xp.out.free 0
     simp at r0
     go_wp2_with fail
     have Xp := hid (Xp.out.set 0 (.slice (some ⟨V82.heap.size, 0, none⟩) N N))
     simp at Xp
     have BV84 := hid (BV83.out.setCell (p := ⟨V0.heap.size, 0, none⟩) Gp.out (.slice (some ⟨V82.heap.size, 0, none⟩) N N))
     have Xa := hid (show Blk _ (V75.heap.size) _ _ from (heap_set1 V83 (V0.heap.size) 0 (.slice (some ⟨V82.heap.size, 0, none⟩) N N) (g := V75.heap.size) NE_a_p.out).trans Xa.out)
     have Xc := hid (show Blk _ (V76.heap.size) _ _ from (heap_set1 V83 (V0.heap.size) 0 (.slice (some ⟨V82.heap.size, 0, none⟩) N N) (g := V76.heap.size) NE_c_p.out).trans Xc.out)
     have Xb := hid (show Blk _ (V82.heap.size) _ _ from (heap_set1 V83 (V0.heap.size) 0 (.slice (some ⟨V82.heap.size, 0, none⟩) N N) (g := V82.heap.size) NE_b_p.out).trans Xb.out)
     obtain ⟨V84, hV⟩ : ∃ x, V83.setCell ⟨V0.heap.size, 0, none⟩ (.slice (some ⟨V82.heap.size, 0, none⟩) N N) = x := ⟨_, rfl⟩
     rw [hV] at BV84 Xp Xa Xc Xb ⊢
     clear hV r0 f0
     refine ⟨trivial, ?_⟩
     refine held_more (is := [12]) (g := 0) (by kernel_rfl) rfl trivial (by kernel_rfl) ?_
     iterate 1
      refine ⟨_, rfl, ?_⟩
      apply Exists.intro
      refine ⟨.inl ⟨by rfl, ?_⟩, ?_⟩
      ·(intro W' hW'; clear hW'; go_simp; try (with_reducible rfl))
      (dsimp only [Act.put]; try simp only [List.setIfInBounds_toArray, List.set_cons_zero, List.set_cons_succ])
     refine wpAnyH_done (by kernel_rfl) ?_ _
     simp only [Only]
     go_wp2_with fail
     go_meet
     exact ⟨_, _, _, _, rfl, rfl, rfl, ⟨zr_made Xa.out Ga.out HNN.out, Xp.out, PRow.new12 Xb.out Gb.out HNN.out, zr_madeN Xc.out Gc.out HNN.out, Gp.out, NE_a_p.out, NE_a_b.out, NE_a_c.out, NE_p_b.out, NE_p_c.out, NE_b_c.out⟩, BV84⟩
   ·skip
    go_wp2_with fail
    obtain ⟨V85, hV⟩ : ∃ x, V75.alloc (.cells (rp3 (.bool false) zz zz N).toArray 57) = x := ⟨_, rfl⟩
    have hb : Below V75.heap.size V75 V85 := by rw [← hV]; exact (Below.refl _ _).alloc (Nat.le_refl _) _
    have Xb := hid (show Blk V85 V75.heap.size ((rp3 (.bool false) zz zz N).toArray) 57 by rw [← hV]; exact Blk.new _ _ _)
    have BV85 := hid (bnext BV75.out hb)
    have Gb := hid (show W.heap.size ≤ V75.heap.size from BV75.out.size)
    have NE_b_p := hid (show V75.heap.size ≠ V0.heap.size from Nat.ne_of_gt Xp.out.lt)
    have NE_p_b := hid (show V0.heap.size ≠ V75.heap.size from Nat.ne_of_lt Xp.out.lt)
    have Xp := hid (Xp.out.call hb)
    rw [hV]
    clear hb hV
    refine ⟨trivial, ?_⟩
    refine held_two (i := 2) (j := 8) (by kernel_rfl) (by rfl) (by rfl) (by rfl) (by rfl) ?_ ?_
    ·skip
     go_wp2_with fail
     obtain ⟨V86, hV⟩ : ∃ x, V85.alloc (.cells (madeCells #[.int .i64 0] N) 3) = x := ⟨_, rfl⟩
     have hb : Below V85.heap.size V85 V86 := by rw [← hV]; exact (Below.refl _ _).alloc (Nat.le_refl _) _
     have Xa := hid (show Blk V86 V85.heap.size (madeCells #[.int .i64 0] N) 3 by rw [← hV]; exact Blk.new _ _ _)
     have BV86 := hid (bnext BV85.out hb)
     have Ga := hid (show W.heap.size ≤ V85.heap.size from BV85.out.size)
     have NE_a_p := hid (show V85.heap.size ≠ V0.heap.size from Nat.ne_of_gt Xp.out.lt)
     have NE_p_a := hid (show V0.heap.size ≠ V85.heap.size from Nat.ne_of_lt Xp.out.lt)
     have NE_a_b := hid (show V85.heap.size ≠ V75.heap.size from Nat.ne_of_gt Xb.out.lt)
     have NE_b_a := hid (show V75.heap.size ≠ V85.heap.size from Nat.ne_of_lt Xb.out.lt)
     have Xp := hid (Xp.out.call hb)
     have Xb := hid (Xb.out.call hb)
     rw [hV]
     clear hb hV
     refine ⟨trivial, ?_⟩
     refine held_more (is := [10]) (g := 3) (by kernel_rfl) rfl trivial (by kernel_rfl) ?_
     iterate 1
      refine ⟨_, rfl, ?_⟩
      apply Exists.intro
      refine ⟨.inl ⟨by rfl, ?_⟩, ?_⟩
      ·(intro W' hW'; clear hW'; go_simp; try (with_reducible rfl))
      (dsimp only [Act.put]; try simp only [List.setIfInBounds_toArray, List.set_cons_zero, List.set_cons_succ])
     refine held_two (i := 8) (j := 11) (by kernel_rfl) (by rfl) (by rfl) (by rfl) (by rfl) ?_ ?_
     ·skip
      go_wp2_with fail
      obtain ⟨V87, hV⟩ : ∃ x, V86.alloc (.cells (madeCells #[.int .i64 0] N) 3) = x := ⟨_, rfl⟩
      have hb : Below V86.heap.size V86 V87 := by rw [← hV]; exact (Below.refl _ _).alloc (Nat.le_refl _) _
      have Xc := hid (show Blk V87 V86.heap.size (madeCells #[.int .i64 0] N) 3 by rw [← hV]; exact Blk.new _ _ _)
      have BV87 := hid (bnext BV86.out hb)
      have Gc := hid (show W.heap.size ≤ V86.heap.size from BV86.out.size)
      have NE_c_p := hid (show V86.heap.size ≠ V0.heap.size from Nat.ne_of_gt Xp.out.lt)
      have NE_p_c := hid (show V0.heap.size ≠ V86.heap.size from Nat.ne_of_lt Xp.out.lt)
      have NE_c_b := hid (show V86.heap.size ≠ V75.heap.size from Nat.ne_of_gt Xb.out.lt)
      have NE_b_c := hid (show V75.heap.size ≠ V86.heap.size from Nat.ne_of_lt Xb.out.lt)
      have NE_c_a := hid (show V86.heap.size ≠ V85.heap.size from Nat.ne_of_gt Xa.out.lt)
      have NE_a_c := hid (show V85.heap.size ≠ V86.heap.size from Nat.ne_of_lt Xa.out.lt)
      have Xp := hid (Xp.out.call hb)
      have Xb := hid (Xb.out.call hb)
      have Xa := hid (Xa.out.call hb)
      rw [hV]
      clear hb hV
      refine ⟨trivial, ?_⟩
      refine held_one (i := 11) (by kernel_rfl) (by rfl) (by rfl) ?_
      have r0 := Xp.out.cell 0
      have f0 := Xp.out.free 0
      simp at r0
      go_wp2_with fail
      have Xp := hid (Xp.out.set 0 (.slice (some ⟨V75.heap.size, 0, none⟩) N N))
      simp at Xp
      have BV88 := hid (BV87.out.setCell (p := ⟨V0.heap.size, 0, none⟩) Gp.out (.slice (some ⟨V75.heap.size, 0, none⟩) N N))
      have Xb := hid (show Blk _ (V75.heap.size) _ _ from (heap_set1 V87 (V0.heap.size) 0 (.slice (some ⟨V75.heap.size, 0, none⟩) N N) (g := V75.heap.size) NE_b_p.out).trans Xb.out)
      have Xa := hid (show Blk _ (V85.heap.size) _ _ from (heap_set1 V87 (V0.heap.size) 0 (.slice (some ⟨V75.heap.size, 0, none⟩) N N) (g := V85.heap.size) NE_a_p.out).trans Xa.out)
      have Xc := hid (show Blk _ (V86.heap.size) _ _ from (heap_set1 V87 (V0.heap.size) 0 (.slice (some ⟨V75.heap.size, 0, none⟩) N N) (g := V86.heap.size) NE_c_p.out).trans Xc.out)
      obtain ⟨V88, hV⟩ : ∃ x, V87.setCell ⟨V0.heap.size, 0, none⟩ (.slice (some ⟨V75.heap.size, 0, none⟩) N N) = x := ⟨_, rfl⟩
      rw [hV] at BV88 Xp Xb Xa Xc ⊢
      clear hV r0 f0
      refine ⟨trivial, ?_⟩
      refine held_more (is := [12]) (g := 0) (by kernel_rfl) rfl trivial (by kernel_rfl) ?_
      iterate 1
       refine ⟨_, rfl, ?_⟩
       apply Exists.intro
       refine ⟨.inl ⟨by rfl, ?_⟩, ?_⟩
       ·(intro W' hW'; clear hW'; go_simp; try (with_reducible rfl))
       (dsimp only [Act.put]; try simp only [List.setIfInBounds_toArray, List.set_cons_zero, List.set_cons_succ])
      refine wpAnyH_done (by kernel_rfl) ?_ _
      simp only [Only]
      go_wp2_with fail
      go_meet
      exact ⟨_, _, _, _, rfl, rfl, rfl, ⟨zr_made Xa.out Ga.out HNN.out, Xp.out, PRow.new12 Xb.out Gb.out HNN.out, zr_madeN Xc.out Gc.out HNN.out, Gp.out, NE_a_p.out, NE_a_b.out, NE_a_c.out, NE_p_b.out, NE_p_c.out, NE_b_c.out⟩, BV88⟩
     ·skip
      have r0 := Xp.out.cell 0
      have f0 := Xp.out.free 0
      simp at r0
      go_wp2_with fail
      have Xp := hid (Xp.out.set 0 (.slice (some ⟨V75.heap.size, 0, none⟩) N N))
      simp at Xp
      have BV89 := hid (BV86.out.setCell (p := ⟨V0.heap.size, 0, none⟩) Gp.out (.slice (some ⟨V75.heap.size, 0, none⟩) N N))
      have Xb := hid (show Blk _ (V75.heap.size) _ _ from (heap_set1 V86 (V0.heap.size) 0 (.slice (some ⟨V75.heap.size, 0, none⟩) N N) (g := V75.heap.size) NE_b_p.out).trans Xb.out)
      have Xa := hid (show Blk _ (V85.heap.size) _ _ from (heap_set1 V86 (V0.heap.size) 0 (.slice (some ⟨V75.heap.size, 0, none⟩) N N) (g := V85.heap.size) NE_a_p.out).trans Xa.out)
      obtain ⟨V89, hV⟩ : ∃ x, V86.setCell ⟨V0.heap.size, 0, none⟩ (.slice (some ⟨V75.heap.size, 0, none⟩) N N) = x := ⟨_, rfl⟩
      rw [hV] at BV89 Xp Xb Xa ⊢
      clear hV r0 f0
      refine ⟨trivial, ?_⟩
      refine held_one (i := 8) (by kernel_rfl) (by rfl) (by rfl) ?_
      go_wp2_with fail
      obtain ⟨V90, hV⟩ : ∃ x, V89.alloc (.cells (madeCells #[.int .i64 0] N) 3) = x := ⟨_, rfl⟩
      have hb : Below V89.heap.size V89 V90 := by rw [← hV]; exact (Below.refl _ _).alloc (Nat.le_refl _) _
      have Xc := hid (show Blk V90 V89.heap.size (madeCells #[.int .i64 0] N) 3 by rw [← hV]; exact Blk.new _ _ _)
      have BV90 := hid (bnext BV89.out hb)
      have Gc := hid (show W.heap.size ≤ V89.heap.size from BV89.out.size)
      have NE_c_p := hid (show V89.heap.size ≠ V0.heap.size from Nat.ne_of_gt Xp.out.lt)
      have NE_p_c := hid (show V0.heap.size ≠ V89.heap.size from Nat.ne_of_lt Xp.out.lt)
      have NE_c_b := hid (show V89.heap.size ≠ V75.heap.size from Nat.ne_of_gt Xb.out.lt)
      have NE_b_c := hid (show V75.heap.size ≠ V89.heap.size from Nat.ne_of_lt Xb.out.lt)
      have NE_c_a := hid (show V89.heap.size ≠ V85.heap.size from Nat.ne_of_gt Xa.out.lt)
      have NE_a_c := hid (show V85.heap.size ≠ V89.heap.size from Nat.ne_of_lt Xa.out.lt)
      have Xp := hid (Xp.out.call hb)
      have Xb := hid (Xb.out.call hb)
      have Xa := hid (Xa.out.call hb)
      rw [hV]
      clear hb hV
      refine ⟨trivial, ?_⟩
      refine held_more (is := [12]) (g := 0) (by kernel_rfl) rfl trivial (by kernel_rfl) ?_
      iterate 1
       refine ⟨_, rfl, ?_⟩
       apply Exists.intro
       refine ⟨.inl ⟨by rfl, ?_⟩, ?_⟩
       ·(intro W' hW'; clear hW'; go_simp; try (with_reducible rfl))
       (dsimp only [Act.put]; try simp only [List.setIfInBounds_toArray, List.set_cons_zero, List.set_cons_succ])
      refine wpAnyH_done (by kernel_rfl) ?_ _
      simp only [Only]
      go_wp2_with fail
      go_meet
      exact ⟨_, _, _, _, rfl, rfl, rfl, ⟨zr_made Xa.out Ga.out HNN.out, Xp.out, PRow.new12 Xb.out Gb.out HNN.out, zr_madeN Xc.out Gc.out HNN.out, Gp.out, NE_a_p.out, NE_a_b.out, NE_a_c.out, NE_p_b.out, NE_p_c.out, NE_b_c.out⟩, BV90⟩
    ·skip
     go_wp2_with fail
     obtain ⟨V91, hV⟩ : ∃ x, V85.alloc (.cells (madeCells #[.int .i64 0] N) 3) = x := ⟨_, rfl⟩
     have hb : Below V85.heap.size V85 V91 := by rw [← hV]; exact (Below.refl _ _).alloc (Nat.le_refl _) _
     have Xc := hid (show Blk V91 V85.heap.size (madeCells #[.int .i64 0] N) 3 by rw [← hV]; exact Blk.new _ _ _)
     have BV91 := hid (bnext BV85.out hb)
     have Gc := hid (show W.heap.size ≤ V85.heap.size from BV85.out.size)
     have NE_c_p := hid (show V85.heap.size ≠ V0.heap.size from Nat.ne_of_gt Xp.out.lt)
     have NE_p_c := hid (show V0.heap.size ≠ V85.heap.size from Nat.ne_of_lt Xp.out.lt)
     have NE_c_b := hid (show V85.heap.size ≠ V75.heap.size from Nat.ne_of_gt Xb.out.lt)
     have NE_b_c := hid (show V75.heap.size ≠ V85.heap.size from Nat.ne_of_lt Xb.out.lt)
     have Xp := hid (Xp.out.call hb)
     have Xb := hid (Xb.out.call hb)
     rw [hV]
     clear hb hV
     refine ⟨trivial, ?_⟩
     refine held_one (i := 2) (by kernel_rfl) (by rfl) (by rfl) ?_
     go_wp2_with fail
     obtain ⟨V92, hV⟩ : ∃ x, V91.alloc (.cells (madeCells #[.int .i64 0] N) 3) = x := ⟨_, rfl⟩
     have hb : Below V91.heap.size V91 V92 := by rw [← hV]; exact (Below.refl _ _).alloc (Nat.le_refl _) _
     have Xa := hid (show Blk V92 V91.heap.size (madeCells #[.int .i64 0] N) 3 by rw [← hV]; exact Blk.new _ _ _)
     have BV92 := hid (bnext BV91.out hb)
     have Ga := hid (show W.heap.size ≤ V91.heap.size from BV91.out.size)
     have NE_a_p := hid (show V91.heap.size ≠ V0.heap.size from Nat.ne_of_gt Xp.out.lt)
     have NE_p_a := hid (show V0.heap.size ≠ V91.heap.size from Nat.ne_of_lt Xp.out.lt)
     have NE_a_b := hid (show V91.heap.size ≠ V75.heap.size from Nat.ne_of_gt Xb.out.lt)
     have NE_b_a := hid (show V75.heap.size ≠ V91.heap.size from Nat.ne_of_lt Xb.out.lt)
     have NE_a_c := hid (show V91.heap.size ≠ V85.heap.size from Nat.ne_of_gt Xc.out.lt)
     have NE_c_a := hid (show V85.heap.size ≠ V91.heap.size from Nat.ne_of_lt Xc.out.lt)
     have Xp := hid (Xp.out.call hb)
     have Xb := hid (Xb.out.call hb)
     have Xc := hid (Xc.out.call hb)
     rw [hV]
     clear hb hV
     refine ⟨trivial, ?_⟩
     refine held_more (is := [10]) (g := 2) (by kernel_rfl) rfl trivial (by kernel_rfl) ?_
     iterate 1
      refine ⟨_, rfl, ?_⟩
      apply Exists.intro
      refine ⟨.inl ⟨by rfl, ?_⟩, ?_⟩
      ·(intro W' hW'; clear hW'; go_simp; try (with_reducible rfl))
      (dsimp only [Act.put]; try simp only [List.setIfInBounds_toArray, List.set_cons_zero, List.set_cons_succ])
     refine held_one (i := 11) (by kernel_rfl) (by rfl) (by rfl) ?_
     have r0 := Xp.out.cell 0
     have f0 := Xp.out.free 0
     simp at r0
     go_wp2_with fail
     have Xp := hid (Xp.out.set 0 (.slice (some ⟨V75.heap.size, 0, none⟩) N N))
     simp at Xp
     have BV93 := hid (BV92.out.setCell (p := ⟨V0.heap.size, 0, none⟩) Gp.out (.slice (some ⟨V75.heap.size, 0, none⟩) N N))
     have Xb := hid (show Blk _ (V75.heap.size) _ _ from (heap_set1 V92 (V0.heap.size) 0 (.slice (some ⟨V75.heap.size, 0, none⟩) N N) (g := V75.heap.size) NE_b_p.out).trans Xb.out)
     have Xc := hid (show Blk _ (V85.heap.size) _ _ from (heap_set1 V92 (V0.heap.size) 0 (.slice (some ⟨V75.heap.size, 0, none⟩) N N) (g := V85.heap.size) NE_c_p.out).trans Xc.out)
     have Xa := hid (show Blk _ (V91.heap.size) _ _ from (heap_set1 V92 (V0.heap.size) 0 (.slice (some ⟨V75.heap.size, 0, none⟩) N N) (g := V91.heap.size) NE_a_p.out).trans Xa.out)
     obtain ⟨V93, hV⟩ : ∃ x, V92.setCell ⟨V0.heap.size, 0, none⟩ (.slice (some ⟨V75.heap.size, 0, none⟩) N N) = x := ⟨_, rfl⟩
     rw [hV] at BV93 Xp Xb Xc Xa ⊢
     clear hV r0 f0
     refine ⟨trivial, ?_⟩
     refine held_more (is := [12]) (g := 0) (by kernel_rfl) rfl trivial (by kernel_rfl) ?_
     iterate 1
      refine ⟨_, rfl, ?_⟩
      apply Exists.intro
      refine ⟨.inl ⟨by rfl, ?_⟩, ?_⟩
      ·(intro W' hW'; clear hW'; go_simp; try (with_reducible rfl))
      (dsimp only [Act.put]; try simp only [List.setIfInBounds_toArray, List.set_cons_zero, List.set_cons_succ])
     refine wpAnyH_done (by kernel_rfl) ?_ _
     simp only [Only]
     go_wp2_with fail
     go_meet
     exact ⟨_, _, _, _, rfl, rfl, rfl, ⟨zr_made Xa.out Ga.out HNN.out, Xp.out, PRow.new12 Xb.out Gb.out HNN.out, zr_madeN Xc.out Gc.out HNN.out, Gp.out, NE_a_p.out, NE_a_b.out, NE_a_c.out, NE_p_b.out, NE_p_c.out, NE_b_c.out⟩, BV93⟩
   ·skip
    go_wp2_with fail
    obtain ⟨V94, hV⟩ : ∃ x, V75.alloc (.cells (madeCells #[.int .i64 0] N) 3) = x := ⟨_, rfl⟩
    have hb : Below V75.heap.size V75 V94 := by rw [← hV]; exact (Below.refl _ _).alloc (Nat.le_refl _) _
    have Xc := hid (show Blk V94 V75.heap.size (madeCells #[.int .i64 0] N) 3 by rw [← hV]; exact Blk.new _ _ _)
    have BV94 := hid (bnext BV75.out hb)
    have Gc := hid (show W.heap.size ≤ V75.heap.size from BV75.out.size)
    have NE_c_p := hid (show V75.heap.size ≠ V0.heap.size from Nat.ne_of_gt Xp.out.lt)
    have NE_p_c := hid (show V0.heap.size ≠ V75.heap.size from Nat.ne_of_lt Xp.out.lt)
    have Xp := hid (Xp.out.call hb)
    rw [hV]
    clear hb hV
    refine ⟨trivial, ?_⟩
    refine held_two (i := 2) (j := 5) (by kernel_rfl) (by rfl) (by rfl) (by rfl) (by rfl) ?_ ?_
    ·skip
     go_wp2_with fail
     obtain ⟨V95, hV⟩ : ∃ x, V94.alloc (.cells (madeCells #[.int .i64 0] N) 3) = x := ⟨_, rfl⟩
     have hb : Below V94.heap.size V94 V95 := by rw [← hV]; exact (Below.refl _ _).alloc (Nat.le_refl _) _
     have Xa := hid (show Blk V95 V94.heap.size (madeCells #[.int .i64 0] N) 3 by rw [← hV]; exact Blk.new _ _ _)
     have BV95 := hid (bnext BV94.out hb)
     have Ga := hid (show W.heap.size ≤ V94.heap.size from BV94.out.size)
     have NE_a_p := hid (show V94.heap.size ≠ V0.heap.size from Nat.ne_of_gt Xp.out.lt)
     have NE_p_a := hid (show V0.heap.size ≠ V94.heap.size from Nat.ne_of_lt Xp.out.lt)
     have NE_a_c := hid (show V94.heap.size ≠ V75.heap.size from Nat.ne_of_gt Xc.out.lt)
     have NE_c_a := hid (show V75.heap.size ≠ V94.heap.size from Nat.ne_of_lt Xc.out.lt)
     have Xp := hid (Xp.out.call hb)
     have Xc := hid (Xc.out.call hb)
     rw [hV]
     clear hb hV
     refine ⟨trivial, ?_⟩
     refine held_more (is := [10]) (g := 3) (by kernel_rfl) rfl trivial (by kernel_rfl) ?_
     iterate 1
      refine ⟨_, rfl, ?_⟩
      apply Exists.intro
      refine ⟨.inl ⟨by rfl, ?_⟩, ?_⟩
      ·(intro W' hW'; clear hW'; go_simp; try (with_reducible rfl))
      (dsimp only [Act.put]; try simp only [List.setIfInBounds_toArray, List.set_cons_zero, List.set_cons_succ])
     refine held_one (i := 5) (by kernel_rfl) (by rfl) (by rfl) ?_
     go_wp2_with fail
     obtain ⟨V96, hV⟩ : ∃ x, V95.alloc (.cells (rp3 (.bool false) zz zz N).toArray 57) = x := ⟨_, rfl⟩
     have hb : Below V95.heap.size V95 V96 := by rw [← hV]; exact (Below.refl _ _).alloc (Nat.le_refl _) _
     have Xb := hid (show Blk V96 V95.heap.size ((rp3 (.bool false) zz zz N).toArray) 57 by rw [← hV]; exact Blk.new _ _ _)
     have BV96 := hid (bnext BV95.out hb)
     have Gb := hid (show W.heap.size ≤ V95.heap.size from BV95.out.size)
     have NE_b_p := hid (show V95.heap.size ≠ V0.heap.size from Nat.ne_of_gt Xp.out.lt)
     have NE_p_b := hid (show V0.heap.size ≠ V95.heap.size from Nat.ne_of_lt Xp.out.lt)
     have NE_b_c := hid (show V95.heap.size ≠ V75.heap.size from Nat.ne_of_gt Xc.out.lt)
     have NE_c_b := hid (show V75.heap.size ≠ V95.heap.size from Nat.ne_of_lt Xc.out.lt)
     have NE_b_a := hid (show V95.heap.size ≠ V94.heap.size from Nat.ne_of_gt Xa.out.lt)
     have NE_a_b := hid (show V94.heap.size ≠ V95.heap.size from Nat.ne_of_lt Xa.out.lt)
     have Xp := hid (Xp.out.call hb)
     have Xc := hid (Xc.out.call hb)
     have Xa := hid (Xa.out.call hb)
     rw [hV]
     clear hb hV
     refine ⟨trivial, ?_⟩
     refine held_one (i := 11) (by kernel_rfl) (by rfl) (by rfl) ?_
     have r0 := Xp.out.cell 0
     have f0 := Xp.out.free 0
     simp at r0
     go_wp2_with fail
     have Xp := hid (Xp.out.set 0 (.slice (some ⟨V95.heap.size, 0, none⟩) N N))
     simp at Xp
     have BV97 := hid (BV96.out.setCell (p := ⟨V0.heap.size, 0, none⟩) Gp.out (.slice (some ⟨V95.heap.size, 0, none⟩) N N))
     have Xc := hid (show Blk _ (V75.heap.size) _ _ from (heap_set1 V96 (V0.heap.size) 0 (.slice (some ⟨V95.heap.size, 0, none⟩) N N) (g := V75.heap.size) NE_c_p.out).trans Xc.out)
     have Xa := hid (show Blk _ (V94.heap.size) _ _ from (heap_set1 V96 (V0.heap.size) 0 (.slice (some ⟨V95.heap.size, 0, none⟩) N N) (g := V94.heap.size) NE_a_p.out).trans Xa.out)
     have Xb := hid (show Blk _ (V95.heap.size) _ _ from (heap_set1 V96 (V0.heap.size) 0 (.slice (some ⟨V95.heap.size, 0, none⟩) N N) (g := V95.heap.size) NE_b_p.out).trans Xb.out)
     obtain ⟨V97, hV⟩ : ∃ x, V96.setCell ⟨V0.heap.size, 0, none⟩ (.slice (some ⟨V95.heap.size, 0, none⟩) N N) = x := ⟨_, rfl⟩
     rw [hV] at BV97 Xp Xc Xa Xb ⊢
     clear hV r0 f0
     refine ⟨trivial, ?_⟩
     refine held_more (is := [12]) (g := 0) (by kernel_rfl) rfl trivial (by kernel_rfl) ?_
     iterate 1
      refine ⟨_, rfl, ?_⟩
      apply Exists.intro
      refine ⟨.inl ⟨by rfl, ?_⟩, ?_⟩
      ·(intro W' hW'; clear hW'; go_simp; try (with_reducible rfl))
      (dsimp only [Act.put]; try simp only [List.setIfInBounds_toArray, List.set_cons_zero, List.set_cons_succ])
     refine wpAnyH_done (by kernel_rfl) ?_ _
     simp only [Only]
     go_wp2_with fail
     go_meet
     exact ⟨_, _, _, _, rfl, rfl, rfl, ⟨zr_made Xa.out Ga.out HNN.out, Xp.out, PRow.new12 Xb.out Gb.out HNN.out, zr_madeN Xc.out Gc.out HNN.out, Gp.out, NE_a_p.out, NE_a_b.out, NE_a_c.out, NE_p_b.out, NE_p_c.out, NE_b_c.out⟩, BV97⟩
    ·skip
     go_wp2_with fail
     obtain ⟨V98, hV⟩ : ∃ x, V94.alloc (.cells (rp3 (.bool false) zz zz N).toArray 57) = x := ⟨_, rfl⟩
     have hb : Below V94.heap.size V94 V98 := by rw [← hV]; exact (Below.refl _ _).alloc (Nat.le_refl _) _
     have Xb := hid (show Blk V98 V94.heap.size ((rp3 (.bool false) zz zz N).toArray) 57 by rw [← hV]; exact Blk.new _ _ _)
     have BV98 := hid (bnext BV94.out hb)
     have Gb := hid (show W.heap.size ≤ V94.heap.size from BV94.out.size)
     have NE_b_p := hid (show V94.heap.size ≠ V0.heap.size from Nat.ne_of_gt Xp.out.lt)
     have NE_p_b := hid (show V0.heap.size ≠ V94.heap.size from Nat.ne_of_lt Xp.out.lt)
     have NE_b_c := hid (show V94.heap.size ≠ V75.heap.size from Nat.ne_of_gt Xc.out.lt)
     have NE_c_b := hid (show V75.heap.size ≠ V94.heap.size from Nat.ne_of_lt Xc.out.lt)
     have Xp := hid (Xp.out.call hb)
     have Xc := hid (Xc.out.call hb)
     rw [hV]
     clear hb hV
     refine ⟨trivial, ?_⟩
     refine held_one (i := 2) (by kernel_rfl) (by rfl) (by rfl) ?_
     go_wp2_with fail
     obtain ⟨V99, hV⟩ : ∃ x, V98.alloc (.cells (madeCells #[.int .i64 0] N) 3) = x := ⟨_, rfl⟩
     have hb : Below V98.heap.size V98 V99 := by rw [← hV]; exact (Below.refl _ _).alloc (Nat.le_refl _) _
     have Xa := hid (show Blk V99 V98.heap.size (madeCells #[.int .i64 0] N) 3 by rw [← hV]; exact Blk.new _ _ _)
     have BV99 := hid (bnext BV98.out hb)
     have Ga := hid (show W.heap.size ≤ V98.heap.size from BV98.out.size)
     have NE_a_p := hid (show V98.heap.size ≠ V0.heap.size from Nat.ne_of_gt Xp.out.lt)
     have NE_p_a := hid (show V0.heap.size ≠ V98.heap.size from Nat.ne_of_lt Xp.out.lt)
     have NE_a_c := hid (show V98.heap.size ≠ V75.heap.size from Nat.ne_of_gt Xc.out.lt)
     have NE_c_a := hid (show V75.heap.size ≠ V98.heap.size from Nat.ne_of_lt Xc.out.lt)
     have NE_a_b := hid (show V98.heap.size ≠ V94.heap.size from Nat.ne_of_gt Xb.out.lt)
     have NE_b_a := hid (show V94.heap.size ≠ V98.heap.size from Nat.ne_of_lt Xb.out.lt)
     have Xp := hid (Xp.out.call hb)
     have Xc := hid (Xc.out.call hb)
     have Xb := hid (Xb.out.call hb)
     rw [hV]
     clear hb hV
     refine ⟨trivial, ?_⟩
     refine held_more (is := [10]) (g := 2) (by kernel_rfl) rfl trivial (by kernel_rfl) ?_
     iterate 1
      refine ⟨_, rfl, ?_⟩
      apply Exists.intro
      refine ⟨.inl ⟨by rfl, ?_⟩, ?_⟩
      ·(intro W' hW'; clear hW'; go_simp; try (with_reducible rfl))
      (dsimp only [Act.put]; try simp only [List.setIfInBounds_toArray, List.set_cons_zero, List.set_cons_succ])
     refine held_one (i := 11) (by kernel_rfl) (by rfl) (by rfl) ?_
     have r0 := Xp.out.cell 0
     have f0 := Xp.out.free 0
     simp at r0
     go_wp2_with fail
     have Xp := hid (Xp.out.set 0 (.slice (some ⟨V94.heap.size, 0, none⟩) N N))
     simp at Xp
     have BV100 := hid (BV99.out.setCell (p := ⟨V0.heap.size, 0, none⟩) Gp.out (.slice (some ⟨V94.heap.size, 0, none⟩) N N))
     have Xc := hid (show Blk _ (V75.heap.size) _ _ from (heap_set1 V99 (V0.heap.size) 0 (.slice (some ⟨V94.heap.size, 0, none⟩) N N) (g := V75.heap.size) NE_c_p.out).trans Xc.out)
     have Xb := hid (show Blk _ (V94.heap.size) _ _ from (heap_set1 V99 (V0.heap.size) 0 (.slice (some ⟨V94.heap.size, 0, none⟩) N N) (g := V94.heap.size) NE_b_p.out).trans Xb.out)
     have Xa := hid (show Blk _ (V98.heap.size) _ _ from (heap_set1 V99 (V0.heap.size) 0 (.slice (some ⟨V94.heap.size, 0, none⟩) N N) (g := V98.heap.size) NE_a_p.out).trans Xa.out)
     obtain ⟨V100, hV⟩ : ∃ x, V99.setCell ⟨V0.heap.size, 0, none⟩ (.slice (some ⟨V94.heap.size, 0, none⟩) N N) = x := ⟨_, rfl⟩
     rw [hV] at BV100 Xp Xc Xb Xa ⊢
     clear hV r0 f0
     refine ⟨trivial, ?_⟩
     refine held_more (is := [12]) (g := 0) (by kernel_rfl) rfl trivial (by kernel_rfl) ?_
     iterate 1
      refine ⟨_, rfl, ?_⟩
      apply Exists.intro
      refine ⟨.inl ⟨by rfl, ?_⟩, ?_⟩
      ·(intro W' hW'; clear hW'; go_simp; try (with_reducible rfl))
      (dsimp only [Act.put]; try simp only [List.setIfInBounds_toArray, List.set_cons_zero, List.set_cons_succ])
     refine wpAnyH_done (by kernel_rfl) ?_ _
     simp only [Only]
     go_wp2_with fail
     go_meet
     exact ⟨_, _, _, _, rfl, rfl, rfl, ⟨zr_made Xa.out Ga.out HNN.out, Xp.out, PRow.new12 Xb.out Gb.out HNN.out, zr_madeN Xc.out Gc.out HNN.out, Gp.out, NE_a_p.out, NE_a_b.out, NE_a_c.out, NE_p_b.out, NE_p_c.out, NE_b_c.out⟩, BV100⟩
 case rest =>
  obtain ⟨g8, gp, g9, g10, rfl, rfl, rfl, hRD, hBW⟩ := hcut
  obtain ⟨wq, hwq⟩ : ∃ x, x = wc := ⟨_, rfl⟩
  subst hwq
  have zq := hid (bnext z4.out hBW.out)
  have F5 := hid (F4.out.call hBW.out)
  have GL := hid (show g6 < W.heap.size from F4.out.lt)
  have GW := hid (show w1.heap.size ≤ W.heap.size from z4.out.size)
  have RD0 := hid hRD.out
  clear hRD hBW F4 z4
  go_wp2_with fail
  go_loopw [11, 12, 13, 14, 48] (fun s11 s12 s13 s14 s48 wr => ∃ i : Nat, s48 = .int .i64 (i : Nat) ∧ i ≤ N ∧ Hid (RdS W.heap.size wr N g8 gp g9 g10 (fillL (qs.map Rat.floor) 0 N i) ((qs.map fpt).take i) (fillL (List.range N) 0 N i)) ∧ Hid (FB wr g6 (alQ qs i)) ∧ Hid (Below w1.heap.size w1 wr)) (fun s11 s12 s13 s14 s48 wr => N - (intOf s48).toNat)
  case atStart => exact ⟨0, rfl, Nat.zero_le _, by rw [fill_zero, fill_zero]; exact RD0, by rw [al_zero]; exact F5, zq⟩
  case round =>
   obtain ⟨i, rfl, hi, hR, hF, hB⟩ := hrel
   obtain ⟨wz, hwz⟩ : ∃ x, x = wr := ⟨_, rfl⟩
   subst hwz
   have BW := hid (bnext y1.out hB.out)
   by_cases hlt : i < N
   ·obtain ⟨s, hx⟩ : ∃ s, l[i]? = some s := ⟨_, List.getElem?_eq_getElem (by rw [HLN.out]; exact hlt)⟩
    have hq := HLQ.out i s hx
    obtain ⟨g, o, rfl, hg, hc⟩ := Q3.out i s hx
    have hc1 := (BW.out.cell hg).trans hc
    obtain ⟨q, hqq⟩ : ∃ q, vQ s = q := ⟨_, rfl⟩
    rw [hqq] at hq
    have hsm := List.mem_of_getElem? hx
    have hqm := List.mem_of_getElem? hq
    have hnr := near_floor (HNE.out q hqm)
    have hfl := flo_near (HQE.out s hsm) (by rw [hqq]; exact hnr)
    have hne := near_qE hnr
    rw [hqq] at hfl
    have PFl := fun V hV => hid (q_Floor V s (HSZ.out s hsm) hV)
    rw [hfl.1, hfl.2] at PFl
    have PAt := fun V => hid (b_AtoiF V q hnr)
    obtain ⟨T, hT⟩ : ∃ T, txQ (flQ q) = T := ⟨_, rfl⟩
    have hTs := flT_size hnr
    rw [hT] at PFl PAt hne hTs
    have PM := fun V hV => hid (f_Must V T (by omega) hne.1 hV)
    rw [hne.2] at PM
    have dq := HDQ.out q hqm
    have lq := Lim.of dq (by omega)
    have dfl := dig_floor dq
    have lfl := Lim.of dfl (by omega)
    have PS1 := fun V x y hx hy => hid (f_Sub V x y q (flQ q) hx hy lq.1 lq.2 lfl.1 lfl.2)
    have dal : Dig 700000 (alQ qs i) := (dig_sub ((dig_rs (K := 4000) HDQ.out).up (L := 300000) (by have := HN.out; have := HNN.out; omega)) ((dig_rs (K := 4001) (l := (qs.take i).map flQ) fun p hp => by
     obtain ⟨p0, hp0, rfl⟩ := List.mem_map.1 hp
     exact dig_floor (HDQ.out p0 (List.mem_of_mem_take hp0))).up (L := 300000) (by have := HN.out; have := HNN.out; rw [List.length_map, List.length_take]; omega))).up (by omega)
    have lal := Lim.of dal (by omega)
    have PS2 := fun V x y hx hy => hid (f_Sub V x y (alQ qs i) (flQ q) hx hy lal.1 lal.2 lfl.1 lfl.2)
    have HAL := hid (al_step hq)
    have f1 : (0 : Int) ≤ (i : Int) := by omega
    have f2 : (i : Int) < (N : Int) := by omega
    have wi : IntKind.i64.wrap ((i : Int) + 1) = ((i + 1 : Nat) : Int) := by have := HNN.out; rw [IntWalk.i64_in _ ⟨by omega, by omega⟩]; omega
    have HQ := hid hq; have HLT := hid hlt
    have LW := hid (HL.out.call BW.out)
    have RQ := hid (RV.out.call hB.out)
    clear hx hq hc hqq hsm hqm hnr hfl hne hT hTs dq lq dfl lfl dal lal hi hlt
    go_wp2_with fail
    refine (PFl _ LW.out).out.mono ?_; rintro e w5 ⟨rfl, hb5⟩
    have z5 := hid hb5
    clear hb5
    go_wp2_with fail
    refine (PAt _).out.mono ?_; rintro e w6 ⟨rfl, hb6⟩
    have z6 := hid (bnext z5.out hb6)
    have R6 := hid (hR.out.call z6.out)
    have fr := R6.out.z.free i
    have hold := R6.out.z.at_ (fill_at (X := qs.map Rat.floor) (z := (0 : Int)) (by rw [List.length_map, HN.out]) HLT.out)
    have F6 := hid (hF.out.call z6.out)
    have R7 := hid (show RdS _ _ _ _ _ _ _ _ _ _ from (R6.out.putZ i q.floor).1)
    have KP7 := hid (R6.out.putZ i q.floor).2
    have B7 := hid ((bnext hB.out z6.out).setCell (p := ⟨g8, i, none⟩) (Nat.le_trans GW.out R6.out.z.lt.1) (.int .i64 q.floor))
    have F7 := hid (F6.out.keep KP7.out (heap_set1 w6 g8 i (.int .i64 q.floor) (Nat.ne_of_lt (Nat.lt_of_lt_of_le GL.out R6.out.z.lt.1))))
    have hflX : (qs.map Rat.floor)[i]? = some q.floor := by rw [List.getElem?_map, HQ.out]; rfl
    rw [fill_set (by rw [List.length_map, HN.out]) hflX] at R7
    clear hb6 hflX
    obtain ⟨W7, hW7⟩ : ∃ x, w6.setCell ⟨g8, i, none⟩ (.int .i64 q.floor) = x := ⟨_, rfl⟩
    rw [hW7] at R7 KP7 B7 F7
    obtain ⟨gv, mv, av1, nv1, cv1, av2, nv2, cv2, rfl, -, hgv, k0, k1, k2, hQv⟩ := RV.out.at HQ.out
    have KK : Hid (∀ V zl ps ns, Below w1.heap.size w1 V → RdS W.heap.size V N g8 gp g9 g10 zl ps ns → V.cell? ⟨gp, 0, none⟩ = some (.slice (some ⟨g9, 0, none⟩) N N) ∧ V.cell? ⟨gv, i * 3, none⟩ = some (.bool mv) ∧ V.cell? ⟨gv, i * 3 + 1, none⟩ = some (.slice av1 nv1 cv1) ∧ V.cell? ⟨gv, i * 3 + 2, none⟩ = some (.slice av2 nv2 cv2)) := fun V zl ps ns hV hR =>
     ⟨hR.p.cell 0, (hV.cell (p := ⟨gv, i * 3, none⟩) hgv).trans k0, (hV.cell (p := ⟨gv, i * 3 + 1, none⟩) hgv).trans k1, (hV.cell (p := ⟨gv, i * 3 + 2, none⟩) hgv).trans k2⟩
    have QV := hid (hQv.call B7.out)
    have L7 := hid (HL.out.call (bnext y1.out B7.out))
    clear k0 k1 k2 hgv hQv hF hB RQ LW hR z5 z6 R6 F6 KP7 BW
    go_upto_region 16 with fail
    clear hold fr hW7 hc1
    refine held_plain [0, 1, 2, 3, 4, 5, 6, 7, 8, 11] 6 (fun V => V.cell? ⟨gp, 0, none⟩ = some (.slice (some ⟨g9, 0, none⟩) N N) ∧ V.cell? ⟨gv, i * 3, none⟩ = some (.bool mv) ∧ V.cell? ⟨gv, i * 3 + 1, none⟩ = some (.slice av1 nv1 cv1) ∧ V.cell? ⟨gv, i * 3 + 2, none⟩ = some (.slice av2 nv2 cv2)) (by kernel_rfl) (by kernel_rfl) (by kernel_rfl) (by kernel_rfl) (KK.out _ _ _ _ (B7.out.drew) (R7.out.call (Below.refl _ _).drew)) ?_
    iterate 10
     refine ⟨_, rfl, ?_⟩
     apply Exists.intro
     refine ⟨.inl ⟨by rfl, ?_⟩, ?_⟩
     ·(intro W' hW'; obtain ⟨z1, z2, z3, z4⟩ := hW'; go_simp; try (with_reducible rfl))
     (dsimp only [Act.put]; try simp only [List.setIfInBounds_toArray, List.set_cons_zero, List.set_cons_succ])
    refine held_one (i := 9) (by kernel_rfl) (by rfl) (by rfl) ?_
    go_wp2_with fail
    refine (PM _ (L7.out.call (Below.refl _ _).drew)).out.mono ?_; rintro e w8 ⟨⟨u8, rfl, hu8⟩, hb8⟩
    obtain ⟨m8, a8, n8, c8, b8, d8, e8, rfl⟩ := hu8.qv
    have x8 := hid (show Below W7.heap.size W7 w8 from (Below.refl _ _).drew.trans hb8)
    have Q8 := hid hu8
    clear hb8 hu8
    go_wp2_with fail
    refine ⟨KK.out _ _ _ _ (bnext B7.out x8.out) (R7.out.call x8.out), ?_⟩
    refine held_one (i := 10) (by kernel_rfl) (by rfl) (by rfl) ?_
    go_wp2_with fail
    refine (PS1 _ _ _ (QV.out.call x8.out) Q8.out).out.mono ?_; rintro e w9 ⟨⟨u9, rfl, hu9⟩, hb9⟩
    obtain ⟨m9, a9, n9, c9, b9, d9, e9, rfl⟩ := hu9.qv
    have x9 := hid (bnext x8.out hb9)
    have Q9 := hid hu9
    clear hb9 hu9
    go_wp2_with fail
    refine ⟨KK.out _ _ _ _ (bnext B7.out x9.out) (R7.out.call x9.out), ?_⟩
    refine held_more (is := [12]) (g := 3) (by kernel_rfl) rfl (KK.out _ _ _ _ (bnext B7.out x9.out) (R7.out.call x9.out)) (by kernel_rfl) ?_
    iterate 1
     refine ⟨_, rfl, ?_⟩
     apply Exists.intro
     refine ⟨.inl ⟨by rfl, ?_⟩, ?_⟩
     ·(intro W' hW'; obtain ⟨z1, z2, z3, z4⟩ := hW'; go_simp; try (with_reducible rfl))
     (dsimp only [Act.put]; try simp only [List.setIfInBounds_toArray, List.set_cons_zero, List.set_cons_succ])
    refine held_one (i := 13) (by kernel_rfl) (by rfl) (by rfl) ?_
    have R9 := hid (R7.out.call x9.out)
    have F9 := hid (F7.out.call x9.out)
    have B9 := hid (bnext B7.out x9.out)
    have L9 := hid (L7.out.call x9.out)
    have GP := hid (show w1.heap.size ≤ g9 from Nat.le_trans GW.out R9.out.r.lt.1)
    obtain ⟨o0, o1, o2, r0, r1, r2⟩ := R9.out.r.cells HLT.out
    have fr0 := R9.out.r.free (i * 3)
    have fr1 := R9.out.r.free (i * 3 + 1)
    have fr2 := R9.out.r.free (i * 3 + 2)
    have hpl : ((qs.map fpt).take i).length = i := by rw [List.length_take, List.length_map, HN.out, Nat.min_eq_left (Nat.le_of_lt HLT.out)]
    have RA := hid (R9.out.putP hpl HLT.out Q9.out).1
    have KA := hid (R9.out.putP hpl HLT.out Q9.out).2
    have BA := hid (((B9.out.setCell (p := ⟨g9, i * 3, none⟩) GP.out (.bool m9)).setCell (p := ⟨g9, i * 3 + 1, none⟩) GP.out (.slice a9 n9 c9)).setCell (p := ⟨g9, i * 3 + 2, none⟩) GP.out (.slice b9 d9 e9))
    have FA := hid (F9.out.keep KA.out (heap_set3j w9 g9 _ _ _ (.bool m9) (.slice a9 n9 c9) (.slice b9 d9 e9) (Nat.ne_of_lt (Nat.lt_of_lt_of_le GL.out R9.out.r.lt.1))))
    have hps : (qs.map fpt).take i ++ [q - flQ q] = (qs.map fpt).take (i + 1) := by rw [List.take_add_one, List.getElem?_map, HQ.out]; rfl
    rw [hps] at RA
    clear hpl hps
    obtain ⟨WA, hWA⟩ : ∃ x, ((w9.setCell ⟨g9, i * 3, none⟩ (.bool m9)).setCell ⟨g9, i * 3 + 1, none⟩ (.slice a9 n9 c9)).setCell ⟨g9, i * 3 + 2, none⟩ (.slice b9 d9 e9) = x := ⟨_, rfl⟩
    rw [hWA] at RA KA BA FA
    go_wp2_with fail
    refine ⟨KK.out _ _ _ _ BA.out RA.out, ?_⟩
    clear hWA r0 r1 r2 fr0 fr1 fr2
    refine held_more (is := [14]) (g := 1) (by kernel_rfl) rfl (KK.out _ _ _ _ BA.out RA.out) (by kernel_rfl) ?_
    iterate 1
     refine ⟨_, rfl, ?_⟩
     apply Exists.intro
     refine ⟨.inl ⟨by rfl, ?_⟩, ?_⟩
     ·(intro W' hW'; obtain ⟨z1, z2, z3, z4⟩ := hW'; go_simp; try (with_reducible rfl))
     (dsimp only [Act.put]; try simp only [List.setIfInBounds_toArray, List.set_cons_zero, List.set_cons_succ])
    refine held_one (i := 15) (by kernel_rfl) (by rfl) (by rfl) ?_
    have hoX : (List.range N)[i]? = some i := List.getElem?_range HLT.out
    have hold := RA.out.o.at_ (x := (0 : Int)) (by rw [List.getElem?_map, fill_at (X := List.range N) (z := 0) (by simp) HLT.out]; rfl)
    have fr := RA.out.o.free i
    have RB := hid (RA.out.putO i i).1
    have KB := hid (RA.out.putO i i).2
    have BB := hid (BA.out.setCell (p := ⟨g10, i, none⟩) (Nat.le_trans GW.out RA.out.o.lt.1) (.int .i64 (i : Nat)))
    have FB2 := hid (FA.out.keep KB.out (heap_set1 WA g10 i (.int .i64 (i : Nat)) (Nat.ne_of_lt (Nat.lt_of_lt_of_le GL.out RA.out.o.lt.1))))
    rw [fill_set (by simp) hoX] at RB
    clear hoX
    obtain ⟨WB, hWB⟩ : ∃ x, WA.setCell ⟨g10, i, none⟩ (.int .i64 (i : Nat)) = x := ⟨_, rfl⟩
    rw [hWB] at RB KB BB FB2
    go_wp2_with fail
    refine ⟨KK.out _ _ _ _ BB.out RB.out, ?_⟩
    clear hWB hold fr
    refine wpAnyH_done (by kernel_rfl) ?_ _
    simp only [Only]
    clear R7 F7 B7 QV L7 Q8 x8 Q9 x9 R9 F9 B9 RA KA BA FA KB
    go_upto_region 17 with fail
    have LB := hid (HL.out.call (bnext y1.out BB.out))
    obtain ⟨m6, a6, n6, c6, b6, d6, e6, hb6, hq6⟩ := FB2.out
    have X6 := hid hb6
    have Q6 := hid hq6
    have K6 : Hid (∀ V, Below WB.heap.size WB V → V.cell? ⟨g6, 0, none⟩ = some (.bool m6) ∧ V.cell? ⟨g6, 1, none⟩ = some (.slice a6 n6 c6) ∧ V.cell? ⟨g6, 2, none⟩ = some (.slice b6 d6 e6)) := fun V hV =>
     ⟨(X6.out.call hV).cell 0, (X6.out.call hV).cell 1, (X6.out.call hV).cell 2⟩
    clear hb6 hq6
    refine held_lasts 4 1 [0, 1] 2 (fun V => V.cell? ⟨g6, 0, none⟩ = some (.bool m6) ∧ V.cell? ⟨g6, 1, none⟩ = some (.slice a6 n6 c6) ∧ V.cell? ⟨g6, 2, none⟩ = some (.slice b6 d6 e6)) (by kernel_rfl) (by kernel_rfl) (by kernel_rfl) (by kernel_rfl) (by kernel_rfl) (by kernel_rfl) (K6.out _ (Below.refl _ _).drew) ?_
    iterate 2
     refine ⟨_, rfl, ?_⟩
     apply Exists.intro
     refine ⟨.inl ⟨by rfl, ?_⟩, ?_⟩
     ·(intro W' hW'; obtain ⟨z1, z2, z3⟩ := hW'; go_simp; try (with_reducible rfl))
     (dsimp only [Act.put]; try simp only [List.setIfInBounds_toArray, List.set_cons_zero, List.set_cons_succ])
    refine held_one (i := 2) (by kernel_rfl) (by rfl) (by rfl) ?_
    go_wp2_with fail
    refine (PM _ (LB.out.call (Below.refl _ _).drew)).out.mono ?_; rintro e w8 ⟨⟨u8, rfl, hu8⟩, hb8⟩
    obtain ⟨m8, a8, n8, c8, b8, d8, e8, rfl⟩ := hu8.qv
    have x8 := hid (show Below WB.heap.size WB w8 from (Below.refl _ _).drew.trans hb8)
    have Q8 := hid hu8
    clear hb8 hu8
    go_wp2_with fail
    refine ⟨K6.out _ x8.out, ?_⟩
    refine held_one (i := 3) (by kernel_rfl) (by rfl) (by rfl) ?_
    go_wp2_with fail
    refine (PS2 _ _ _ (Q6.out.call x8.out) Q8.out).out.mono ?_; rintro e w9 ⟨⟨u9, rfl, hu9⟩, hb9⟩
    obtain ⟨m9, a9, n9, c9, b9, d9, e9, rfl⟩ := hu9.qv
    have x9 := hid (bnext x8.out hb9)
    have Q9 := hid hu9
    clear hb9 hu9
    go_wp2_with fail
    refine ⟨K6.out _ x9.out, ?_⟩
    refine wpAnyH_done (by kernel_rfl) ?_ _
    simp only [Only, ThenL, List.drop_succ_cons, List.drop_zero]
    have RC := hid (RB.out.call x9.out)
    have XC := hid (X6.out.call x9.out)
    have BC := hid (bnext BB.out x9.out)
    have r0 := XC.out.cell 0
    have r1 := XC.out.cell 1
    have r2 := XC.out.cell 2
    have f0 := XC.out.free 0
    have f1' := XC.out.free 1
    have f2' := XC.out.free 2
    simp at r0 r1 r2
    have KD := hid (keep3 XC.out m9 a9 b9 n9 c9 d9 e9)
    have FD := hid (show FB _ g6 (alQ qs (i + 1)) by rw [HAL.out]; exact FB.put XC.out Q9.out)
    have RD := hid (RC.out.keep KD.out (b := g6) (fun g hg => heap_set3 w9 g6 _ _ _ hg) (Nat.ne_of_gt (Nat.lt_of_lt_of_le GL.out RC.out.z.lt.1)) (Nat.ne_of_gt (Nat.lt_of_lt_of_le GL.out RC.out.bp)) (Nat.ne_of_gt (Nat.lt_of_lt_of_le GL.out RC.out.r.lt.1)) (Nat.ne_of_gt (Nat.lt_of_lt_of_le GL.out RC.out.o.lt.1)))
    have BD := hid (((BC.out.setCell (p := ⟨g6, 0, none⟩) G6.out (.bool m9)).setCell (p := ⟨g6, 1, none⟩) G6.out (.slice a9 n9 c9)).setCell (p := ⟨g6, 2, none⟩) G6.out (.slice b9 d9 e9))
    obtain ⟨WD, hWD⟩ : ∃ x, ((w9.setCell ⟨g6, 0, none⟩ (.bool m9)).setCell ⟨g6, 1, none⟩ (.slice a9 n9 c9)).setCell ⟨g6, 2, none⟩ (.slice b9 d9 e9) = x := ⟨_, rfl⟩
    rw [hWD] at KD FD RD BD
    clear K6 KD x8 Q8 x9 Q9 RC BC X6 Q6 RB BB FB2 LB
    go_wp2_with fail
    go_roundw
    case rel => exact ⟨i + 1, by go_num, HLT.out, RD, FD, BD⟩
    case measure => simp [intOf] <;> (have := HLT.out; omega)
   ·obtain rfl : i = N := by omega
    have q0 : decide ((i : Int) < (i : Int)) = false := by simp
    have q1 : decide (i < i) = false := by simp
    have hfe : fillL (qs.map Rat.floor) 0 i i = qs.map Rat.floor := fill_end (by rw [List.length_map, HN.out])
    have hoe : fillL (List.range i) 0 i i = List.range i := fill_end (by simp)
    have hpe : (qs.map fpt).take i = qs.map fpt := List.take_of_length_le (by rw [List.length_map, HN.out]; exact Nat.le_refl _)
    rw [hfe, hoe, hpe] at hR
    have hae : alQ qs i = ((rdM qs : Nat) : Rat) := by rw [← HN.out, al_end]; exact (rdM_le HDEN.out).2
    rw [hae] at hF
    have hml := (rdM_le HDEN.out).1
    rw [HN.out] at hml
    have hpl : ∀ p ∈ qs.map fpt, Lim p := fun p hp => by
     obtain ⟨q, hq, rfl⟩ := List.mem_map.1 hp
     exact Lim.of (K := 9000) ((dig_sub (HDQ.out q hq) (dig_floor (HDQ.out q hq))).up (by omega)) (by omega)
    have PSo := hid (s_SortN wz W.heap.size W.heap.size g10 gp (.slice (some ⟨g9, 0, none⟩) i i) (qs.map fpt) (List.range i) i (by simp) hR.out.o.ints HNN.out (hR.out.r.full (by rw [List.length_map, HN.out])) (by rw [List.length_map, HN.out]; have := HNN.out; omega) hpl (hR.out.p.cell 0) hR.out.n5 (fun e => hR.out.n6 (by simpa [Value.ownBlock] using e)) (fun x hx => by rw [List.length_map, HN.out]; exact List.mem_range.1 hx))
    obtain ⟨S, hS⟩ : ∃ S, dsort (fun j => (qs.map fpt).getD j 0) (List.range i) = S := ⟨_, rfl⟩
    have hST : S.take (rdM qs) = rdO qs (rdM qs) := by rw [← hS, ← rdO_take, HN.out]
    have hSl : S.length = i := by rw [← hS, dsort_len, List.length_range]
    have hSn : S.Nodup := by rw [← hS]; exact (dsort_perm _ _).nodup_iff.2 List.nodup_range
    have hSm : ∀ x ∈ S, x < i := fun x hx => by rw [← hS] at hx; exact List.mem_range.1 ((dsort_perm _ _).mem_iff.1 hx)
    rw [hS] at PSo
    obtain ⟨m, hm⟩ : ∃ m, rdM qs = m := ⟨_, rfl⟩
    rw [hm] at hF hml hST
    have HM := hid hm
    have HST := hid hST; have HSL := hid hSl; have HSN := hid hSn; have HSM := hid hSm; have HML := hid hml
    clear hfe hoe hpe hae hpl hS hST hSl hSn hSm hm hml hlt hi
    go_wp2_with fail
    refine PSo.out.mono ?_; rintro e wS ⟨rfl, hsr, hsg⟩
    have KS := hR.out.o.ints.keeps hsg
    have BS := hid (below_grown1 hB.out hsg (Nat.le_trans GW.out hR.out.o.lt.1) (Nat.le_refl _))
    have FS := hid (hF.out.keep KS (hsg.block g6 hF.out.lt (fun e => by have h1 := Option.some.inj e; have h2 := hR.out.o.lt.1; have h3 := GL.out; omega)))
    have ZS := hid (hR.out.z.keep (hsg.block g8 hR.out.z.lt.2 (fun e => hR.out.n3 (Option.some.inj e))))
    have OS := hid hsr
    have NE := hid hR.out.n3
    have GO := hid hR.out.o.lt.1; have GZ := hid hR.out.z.lt.1
    clear KS hsg hsr PSo hR hF hB BW
    obtain ⟨m6, a6, n6, c6, b6, d6, e6, hb6, hq6⟩ := FS.out
    have r1 := hb6.cell 1
    simp at r1
    have NQ := (isQ_partsU hq6).1
    rw [Rat.num_natCast, Int.natAbs_natCast] at NQ
    have NQ6 := hid NQ
    have LS := hid (HL.out.call (bnext y1.out BS.out))
    have PStr := fun V v hv hV => hid (l_String V v m hv hV (by
     have h1 : m < 10 ^ 9 := by have := HML.out; have := HNN.out; omega
     have h2 : Dig 9 ((m : Nat) : Rat) := ⟨by rw [Rat.num_natCast]; exact h1, by rw [Rat.den_natCast]; omega⟩
     have h3 := (h2.lim (L := 1000000) (by omega)).1
     rw [Rat.num_natCast] at h3
     exact h3))
    have PAt := fun V => hid (b_AtoiN V m (by have := HML.out; have := HNN.out; omega))
    clear hb6 hq6 NQ FS
    go_wp2_with fail
    refine (PStr _ _ NQ6.out LS.out).out.mono ?_; rintro e w5 ⟨rfl, hb5⟩
    have B5 := hid (bnext BS.out hb5)
    have Z5 := hid (ZS.out.call hb5); have O5 := hid (OS.out.call hb5)
    clear hb5 r1
    go_wp2_with fail
    refine (PAt _).out.mono ?_; rintro e w6 ⟨rfl, hb6⟩
    have B6 := hid (bnext B5.out hb6)
    have Z6 := hid (Z5.out.call hb6); have O6 := hid (O5.out.call hb6)
    clear hb6 B5 Z5 O5 ZS OS NQ6 LS
    have s1 : (0 : Int) ≤ (m : Int) := by omega
    have s2 : (m : Int) ≤ (i : Int) := by have := HML.out; omega
    go_wp2_with fail
    go_loopw [18, 99] (fun s18 s99 wr => ∃ t : Nat, s99 = .int .i64 (t : Nat) ∧ t ≤ m ∧ Hid (ZRow W.heap.size wr g8 i (upL qs ((rdO qs m).take t))) ∧ Hid (IRow W.heap.size wr g10 i i S) ∧ Hid (Below w1.heap.size w1 wr)) (fun s18 s99 wr => m - (intOf s99).toNat)
    case atStart => exact ⟨0, rfl, Nat.zero_le _, by rw [List.take_zero, upL_nil]; exact Z6, O6, B6⟩
    case round =>
     obtain ⟨t, rfl, ht, hZ, hO, hB2⟩ := hrel
     by_cases hlt : t < m
     ·obtain ⟨k, hk⟩ : ∃ k, S[t]? = some k := ⟨_, List.getElem?_eq_getElem (by rw [HSL.out]; have := HML.out; omega)⟩
      have hki := HSM.out k (List.mem_of_getElem? hk)
      have hkr : (rdO qs m)[t]? = some k := by rw [← HST.out, List.getElem?_take, if_pos hlt]; exact hk
      have hnd : (rdO qs m).Nodup := rdO_nd qs m
      obtain ⟨hnew, htk⟩ := take_new hnd hkr
      have hkq : k < qs.length := by rw [HN.out]; exact hki
      have hzk := hZ.out.at_ (upL_get hkq hnew)
      have hok := hO.out.at_ HSL.out hk
      have hfr := hZ.out.free k
      have hup := upL_set hkq hnew
      obtain ⟨fl, hfl⟩ : ∃ x, (qs.getD k 0).floor = x := ⟨_, rfl⟩
      have hfb : fl.natAbs < 10 ^ 13 := by
       rw [← hfl]
       exact near_floor (HNE.out _ (by rw [List.getD_eq_getElem?_getD, List.getElem?_eq_getElem hkq]; exact List.getElem_mem hkq))
      rw [hfl] at hzk hup
      have wf : IntKind.i64.wrap (fl + 1) = fl + 1 := IntWalk.i64_in _ ⟨by omega, by omega⟩
      have wt : IntKind.i64.wrap ((t : Int) + 1) = ((t + 1 : Nat) : Int) := by have := HML.out; have := HNN.out; rw [IntWalk.i64_in _ ⟨by omega, by omega⟩]; omega
      have f1 : (0 : Int) ≤ (t : Int) := by omega
      have f2 : (t : Int) < (m : Int) := by omega
      have f3 : (0 : Int) ≤ (k : Int) := by omega
      have f4 : (k : Int) < (i : Int) := by omega
      have t1 : decide (t < m) = true := decide_eq_true hlt
      have ZN := hid (show ZRow W.heap.size (wr.setCell ⟨g8, k, none⟩ (.int .i64 (fl + 1))) g8 i (upL qs ((rdO qs m).take (t + 1))) by rw [htk, ← hup]; exact (hZ.out.put k (fl + 1)).1)
      have ON := hid (show IRow W.heap.size (wr.setCell ⟨g8, k, none⟩ (.int .i64 (fl + 1))) g10 i i S from (hO.out.zs_.keep (heap_set1 wr g8 k (.int .i64 (fl + 1)) NE.out.symm)).ints)
      have BN := hid (hB2.out.setCell (p := ⟨g8, k, none⟩) (Nat.le_trans GW.out GZ.out) (.int .i64 (fl + 1)))
      have HLT := hid hlt
      clear hk hki hkr hnd hnew htk hkq hup hfl hfb hZ hO hB2 hlt ht
      go_wp2_with fail
      go_roundw
      case rel => exact ⟨t + 1, by go_num, HLT.out, ZN, ON, BN⟩
      case measure => simp [intOf] <;> (have := HLT.out; omega)
     ·obtain rfl : t = m := by omega
      have q2 : decide ((t : Int) < (t : Int)) = false := by simp
      have q3 : decide (t < t) = false := by simp
      have FIN := hid (Row.of_owns hZ.out)
      have hlm : (rdO qs t).take t = rdO qs t := List.take_of_length_le (by rw [rdO_len (by rw [HN.out]; exact HML.out)]; exact Nat.le_refl _)
      rw [hlm, upL_end] at FIN
      have BE := hid (bnext y1.out hB2.out)
      clear hlm hZ hO hB2 hlt ht
      go_wp2_with fail
      go_ret2
      exact ⟨⟨_, rfl, by rw [HM.out]; exact FIN.out⟩, BE.out⟩
end Go.Proofs.YtlimaehdmcnjaaaGreatDoor
